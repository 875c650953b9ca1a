/- The Writer: Put, Len, Bytes, Clone, by bits. -/
import Derived.Test.YtemkfkaggdpcjaaDoorB2
import Derived.Deep.LoopGhost
import Derived.Deep.DeepCutAuto
namespace Go.Proofs.YtemkfkaggdpcjaaDoor
open Go.RowKit Go.Proofs.YtemkfkaggdpcjaaDoorW.PrintWords Go.Proofs.YtemkfkaggdpcjaaDoorW.PrintMore Bq
set_option linter.unusedVariables false
set_option linter.unusedSimpArgs false
attribute [local go_sem] max2_int min2_int max_two min_two
attribute [local go_sem ↓] Go.wp_at_zero Go.wp_at_succ

theorem wok_made (w : World) (g : Nat) (b : Bool) (n : Int) (v : Value) (hg : w.heap[g]? = some (.cells #[.bool b, .int .i64 n, v] 40 (0, 0))) :
    Calls Tryd.prog 22 #[.pointer (some ⟨g, 0, none⟩)] w fun e w' => e = .returned (.bool b) ∧ w = w' := by
  have h0 : w.cell? ⟨g, 0, none⟩ = some (.bool b) := (blk_cell hg 0).trans rfl
  go_enter Tryd.func22, Tryd.ntmps22
  go_wp2
  go_ret
  exact ⟨rfl, rfl⟩
theorem wok_nil (w : World) :
    Calls Tryd.prog 22 #[.pointer none] w fun e w' => e = .returned (.bool false) ∧ w = w' := by
  go_enter Tryd.func22, Tryd.ntmps22
  go_wp2
  go_ret
  exact ⟨rfl, rfl⟩

theorem PutSt.drewN {w0 w : World} {ok : Nat → Prop} {pw pd pn g : Nat} {N width n : Int} {xs : List Int} (h : PutSt w0 w ok pw pd pn g N width n xs) (m : Nat) : PutSt w0 (w.drewN m) ok pw pd pn g N width n xs :=
  ⟨h.bw, h.bd, h.bn, let ⟨v, a, b, c⟩ := h.wr; ⟨v, a, Kd.R_drewN b m, c⟩, h.mod.drewN m⟩
theorem put1 (w0 w : World) (ok : Nat → Prop) (pw pd pn g : Nat) (bs : List Bool) (wd n : Nat) (W : Int) (hW : W = wd)
    (hst : PutSt w0 w ok pw pd pn g bs.length W n (packI bs)) (hfr : ∀ k, w.heap.size ≤ k → ok k) (hN : bs.length ≤ 8388608) (hw1 : 0 < wd) (hw2 : wd ≤ 64) (hn : n < 18446744073709551616) :
    Calls Tryd.prog 23 #[.pointer (some ⟨pw, 0, none⟩), .pointer (some ⟨pd, 0, none⟩), .pointer (some ⟨pn, 0, none⟩)] w fun e w' => e = .returned (.tuple #[]) ∧
      ∃ k : Nat, 0 < k ∧ k ≤ wd ∧ PutSt w0 w' ok pw pd pn g (bs ++ nb (n / 2 ^ (wd - k)) k).length ((wd - k : Nat) : Int) n (packI (bs ++ nb (n / 2 ^ (wd - k)) k)) := by
  subst hW
  have hl : (packI bs).length = (bs.length + 7) / 8 := by unfold packI; rw [ints_length, pack_length]
  have hg : 0 < (growB bs.length (packI bs)).length := by
    unfold growB
    split
    · simp
    · omega
  refine (put1_raw w0 w ok pw pd pn g bs.length wd n (packI bs) hst hfr (by omega) (by omega) (by omega) (by omega) (by omega) hg (by omega) (by omega)).mono ?_
  rintro e w' ⟨rfl, h⟩
  obtain ⟨hk1, hk2, hk3⟩ := kk_bd bs.length wd (by omega) (by omega)
  refine ⟨rfl, (kk bs.length wd).toNat, by omega, by omega, ?_⟩
  rw [step_bytes bs wd n hw1 (by simpa using hn)] at h
  have e1 : (((wd - (kk bs.length wd).toNat : Nat)) : Int) = wd - kk bs.length wd := by omega
  have e2 : ((bs ++ nb (n / 2 ^ (wd - (kk bs.length wd).toNat)) (kk bs.length wd).toNat).length : Int) = bs.length + kk bs.length wd := by
    rw [List.length_append, nb_length]
    omega
  rw [e1, e2]
  exact h

/-- A Writer that a call made, by its bits. -/
def Wr (w : World) (ok : Nat → Prop) (g : Nat) (bs : List Bool) : Prop := ∃ v, WrB w ok g bs.length v (packI bs)
theorem Wr.kept {w w1 : World} {ok S : Nat → Prop} {g : Nat} {bs : List Bool} (h : Wr w ok g bs) (hm : Mod S w w1) (hs : ∀ k, ok k → k < w.heap.size → ¬ S k) : Wr w1 ok g bs := by
  obtain ⟨v, a, b, c⟩ := h
  exact ⟨v, hm.blk a (hs g c (blk_lt a)), Kd.R_step b (fun k ho hk => hm.block k hk (hs k ho hk)), c⟩
theorem Wr.bound {w : World} {ok : Nat → Prop} {g : Nat} {bs : List Bool} (h : Wr w ok g bs) : Wr w (fun k => ok k ∧ k < w.heap.size) g bs := by
  obtain ⟨v, a, b, c⟩ := h
  exact ⟨v, a, Kd.R_mono (Kd.R_bound b) (fun k hk => ⟨hk.1, hk.2.2.1⟩), c, blk_lt a⟩
theorem Wr.mono {w : World} {ok ok' : Nat → Prop} {g : Nat} {bs : List Bool} (h : Wr w ok g bs) (hs : ∀ k, ok k → ok' k) : Wr w ok' g bs := by
  obtain ⟨v, a, b, c⟩ := h
  exact ⟨v, a, Kd.R_mono b hs, hs g c⟩
theorem Wr.drewN {w : World} {ok : Nat → Prop} {g : Nat} {bs : List Bool} (h : Wr w ok g bs) (n : Nat) : Wr (w.drewN n) ok g bs := by
  obtain ⟨v, a, b, c⟩ := h
  exact ⟨v, a, Kd.R_drewN b n, c⟩

/-- What is wrong with putting n into width bits behind N. -/
def badW (width : Int) (n : Nat) : Bool := decide (width < 0) || decide (64 < width) || (decide (width < 64) && decide (0 < n / 2 ^ width.toNat))
theorem badW_mid (n : Nat) (width : Int) (h1 : 0 ≤ width) (h3 : width < 64) : badW width n = decide (0 < (n : Int) / 2 ^ width.toNat) := by
  unfold badW
  rw [decide_eq_false (by omega), decide_eq_false (show ¬ 64 < width by omega), decide_eq_true h3]
  have h : (n : Int) / 2 ^ width.toNat = ((n / 2 ^ width.toNat : Nat) : Int) := by simp
  rw [h]
  simp only [Bool.false_or, Bool.true_and]
  congr 1
  rw [eq_iff_iff]
  omega
theorem badW_false {width : Int} {n : Nat} (h : badW width n = false) : 0 ≤ width ∧ width ≤ 64 ∧ (width < 64 → n < 2 ^ width.toNat) := by
  unfold badW at h
  simp only [Bool.or_eq_false_iff, decide_eq_false_iff_not, Bool.and_eq_false_iff] at h
  obtain ⟨⟨h1, h2⟩, h3⟩ := h
  refine ⟨by omega, by omega, fun h4 => ?_⟩
  rcases h3 with h3 | h3
  · omega
  · have := Nat.two_pow_pos width.toNat
    rw [Nat.not_lt, Nat.le_zero, Nat.div_eq_zero_iff] at h3
    omega
def putE (N : Nat) (width : Int) (n : Nat) : Int := if badW width n then 1 else if 8388608 - (N : Int) < width then 5 else 0
def putBits (bs : List Bool) (width : Int) (n : Nat) : List Bool := if putE bs.length width n = 0 then bs ++ nb n width.toNat else bs

set_option maxHeartbeats 4000000 in
theorem put_calls (w : World) (ok : Nat → Prop) (g : Nat) (bs : List Bool) (n : Nat) (width : Int) (hW : Wr w ok g bs) (hN : bs.length ≤ 8388608) (hn : n < 18446744073709551616)
    (hw1 : -9223372036854775808 ≤ width) (hw2 : width ≤ 9223372036854775807) :
    Calls Tryd.prog 15 #[.pointer (some ⟨g, 0, none⟩), .int .u64 n, .int .i64 width] w fun e w' =>
      e = .returned (.int .i64 (putE bs.length width n)) ∧ Wr w' (fun k => ok k ∨ w.heap.size ≤ k) g (putBits bs width n) ∧ Mod ok w w' := by
  obtain ⟨v, hg0, hR0, okg⟩ := hW
  obtain ⟨b, hb⟩ : ∃ b, b = badW width n := ⟨_, rfl⟩
  have HB := Lib.hid hb
  clear hb
  have hgl := blk_lt hg0
  go_enter Tryd.func15, Tryd.ntmps15
  go_upto_region 1 with fail
  have bw := blk_alloc (blk_alloc (blk_new w (.cells #[.pointer (some ⟨g, 0, none⟩)] 29)) (.cells #[.int .u64 n] 22)) (.cells #[.int .i64 width] 3)
  have bn := blk_alloc (blk_new (w.alloc (.cells #[.pointer (some ⟨g, 0, none⟩)] 29)) (.cells #[.int .u64 n] 22)) (.cells #[.int .i64 width] 3)
  have bd := blk_new ((w.alloc (.cells #[.pointer (some ⟨g, 0, none⟩)] 29)).alloc (.cells #[.int .u64 n] 22)) (.cells #[.int .i64 width] 3)
  have hg := blk_alloc (blk_alloc (blk_alloc hg0 (.cells #[.pointer (some ⟨g, 0, none⟩)] 29)) (.cells #[.int .u64 n] 22)) (.cells #[.int .i64 width] 3)
  have hR := Kd.R_alloc (Kd.R_alloc (Kd.R_alloc hR0 (.cells #[.pointer (some ⟨g, 0, none⟩)] 29)) (.cells #[.int .u64 n] 22)) (.cells #[.int .i64 width] 3)
  have hm : Below w.heap.size w (((w.alloc (.cells #[.pointer (some ⟨g, 0, none⟩)] 29)).alloc (.cells #[.int .u64 n] 22)).alloc (.cells #[.int .i64 width] 3)) := (((Below.refl _ w).alloc (Nat.le_refl _) _).alloc (by simp) _).alloc (by simp; omega) _
  have hs3 : w.heap.size + 3 = (((w.alloc (.cells #[.pointer (some ⟨g, 0, none⟩)] 29)).alloc (.cells #[.int .u64 n] 22)).alloc (.cells #[.int .i64 width] 3)).heap.size := by simp
  simp only [World.size_alloc] at bn bd
  generalize (((w.alloc (.cells #[.pointer (some ⟨g, 0, none⟩)] 29)).alloc (.cells #[.int .u64 n] 22)).alloc (.cells #[.int .i64 width] 3)) = w3 at *
  have hs3' : w.heap.size + 3 ≤ w3.heap.size := by omega
  have HS := Lib.hid hs3
  clear hs3
  have c0 : w3.cell? ⟨w.heap.size, 0, none⟩ = some (.pointer (some ⟨g, 0, none⟩)) := (blk_cell bw 0).trans rfl
  have c1 : w3.cell? ⟨w.heap.size + 1, 0, none⟩ = some (.int .u64 n) := (blk_cell bn 0).trans rfl
  have c2 : w3.cell? ⟨w.heap.size + 1 + 1, 0, none⟩ = some (.int .i64 width) := (blk_cell bd 0).trans rfl
  have g1 : w3.cell? ⟨g, 1, none⟩ = some (.int .i64 bs.length) := (blk_cell hg 1).trans rfl
  have HR := Lib.hid hR
  have HR0 := Lib.hid hR0
  clear hR hR0
  go_upto_region 3 with (go_at_call 22; refine (wok_made _ _ _ _ _ hg).mono ?_; rintro e w' ⟨rfl, rfl⟩)
  go_cut [27] (fun s27 wx => s27 = .bool b ∧ wx = w3)
  case first =>
    by_cases h1 : width < 0
    · go_wp2_with fail
      go_meet
      exact ⟨by rw [HB.out]; simp [badW, h1], rfl⟩
    · by_cases h2 : 64 < width
      · go_wp2_with fail
        go_meet
        exact ⟨by rw [HB.out]; simp [badW, h1, h2], rfl⟩
      · by_cases h3 : width < 64
        · go_wp2_with fail
          go_meet
          exact ⟨by rw [HB.out, badW_mid n width (by omega) h3], rfl⟩
        · go_wp2_with fail
          go_meet
          exact ⟨by rw [HB.out]; unfold badW; rw [decide_eq_false (show ¬ width < 0 by omega), decide_eq_false (show ¬ 64 < width by omega), decide_eq_false (show ¬ width < 64 by omega)]; rfl, rfl⟩
  case rest =>
    obtain ⟨rfl, rfl⟩ := hcut
    have hfin : ∀ x : Int, x = putE bs.length width n → x ≠ 0 → Wr wc (fun k => ok k ∨ w.heap.size ≤ k) g (putBits bs width n) ∧ Mod ok w wc := by
      intro x hx h0
      unfold putBits
      rw [if_neg (by rw [← hx]; exact h0)]
      exact ⟨⟨v, hg, Kd.R_mono HR.out (fun _ h => .inl h), .inl okg⟩, Mod.of_below hm _⟩
    have HF := Lib.hid hfin
    clear hfin
    cases b with
    | true =>
      go_wp2_with fail
      go_ret
      have hE : putE bs.length width n = 1 := by unfold putE; rw [← HB.out]; rfl
      exact ⟨by rw [hE]; rfl, HF.out 1 hE.symm (by decide)⟩
    | false =>
      have HE : Hid (putE bs.length width n = if 8388608 - (bs.length : Int) < width then 5 else 0) := by unfold Hid putE; rw [← HB.out]; rfl
      have hwd := badW_false HB.out.symm
      obtain ⟨hwd1, hwd2, hwd3⟩ := hwd
      have HW3 := Lib.hid hwd3
      clear hwd3
      have hsub : IntKind.i64.wrap (8388608 - (bs.length : Int)) = 8388608 - (bs.length : Int) := IntWalk.i64_in _ (by omega)
      by_cases hcap : 8388608 - (bs.length : Int) < width
      · have hc1 : decide (8388608 - (bs.length : Int) < width) = true := decide_eq_true hcap
        go_wp2_with fail
        go_quiet (fail)
        go_wp2_with fail
        go_ret
        have hE : putE bs.length width n = 5 := by rw [HE.out, if_pos hcap]
        obtain ⟨a, c⟩ := HF.out 5 hE.symm (by decide)
        exact ⟨by rw [hE]; rfl, Wr.drewN a _, c.drewN _⟩
      · have hc1 : decide (8388608 - (bs.length : Int) < width) = false := decide_eq_false hcap
        have HCAP := Lib.hid hcap
        clear hcap
        go_wp2_with fail
        go_quiet (fail)
        go_wp2_with fail
        obtain ⟨wd, hwd⟩ := Int.eq_ofNat_of_zero_le hwd1
        have HWD := Lib.hid hwd
        clear hwd
        have hwd4 : (wd : Int) ≤ 64 := by rw [← HWD.out]; exact hwd2
        have hwd5 : (bs.length : Int) + wd ≤ 8388608 := by have := HCAP.out; rw [← HWD.out]; omega
        have hst : PutSt w wc (fun k => ok k ∨ w.heap.size ≤ k) w.heap.size (w.heap.size + 1 + 1) (w.heap.size + 1) g bs.length width n (packI bs) :=
          ⟨bw, bd, bn, ⟨v, hg, Kd.R_mono HR.out (fun _ h => .inl h), .inl okg⟩, Mod.of_below hm _⟩
        have HST := Lib.hid hst
        clear hst
        clear c0 c1 c2 g1 bw bd bn hg HR HF hc1 hsub
        go_loopg [] wd (fun kq wr => kq ≤ wd ∧ ∃ bs2 : List Bool, PutSt w wr (fun k => ok k ∨ w.heap.size ≤ k) w.heap.size (w.heap.size + 1 + 1) (w.heap.size + 1) g bs2.length kq n (packI bs2) ∧ Hid (bs2 ++ nb n kq = bs ++ nb n wd))
        case atStart => 
          refine ⟨Nat.le_refl _, bs, ?_, rfl⟩
          rw [← HWD.out]
          exact HST.out.drewN _
        case round =>
          obtain ⟨hk, bs2, hst2, hb2⟩ := hrel
          have c2 : wr.cell? ⟨w.heap.size + 1 + 1, 0, none⟩ = some (.int .i64 gk) := (blk_cell hst2.bd 0).trans rfl
          have hlen : bs2.length + gk = bs.length + wd := by
            have := congrArg List.length hb2.out
            simpa [nb_length] using this
          have HST2 := Lib.hid hst2
          clear hst2
          have HLEN := Lib.hid hlen
          clear hlen
          by_cases hz : gk = 0
          · subst hz
            go_wp2_with fail
            go_ret
            have hE : putE bs.length width n = 0 := by rw [HE.out, if_neg (by have := HCAP.out; omega)]
            have hb3 : bs2 = bs ++ nb n wd := by have := hb2.out; rwa [nb_zero, List.append_nil] at this
            obtain ⟨v2, a, c, d⟩ := HST2.out.wr
            refine ⟨by rw [hE]; rfl, ?_, HST2.out.mod.weaken (fun k hk h => ?_)⟩
            · unfold putBits
              rw [if_pos hE, show width.toNat = wd from by rw [HWD.out]; omega, ← hb3]
              exact ⟨v2, a, c, d⟩
            · rcases h with (h | h) | h
              · exact h
              · omega
              · omega
          · have hgk : (0 : Int) < gk := by omega
            have hfr : ∀ k, wr.heap.size ≤ k → ok k ∨ w.heap.size ≤ k := fun k hk => .inr (Nat.le_trans HST2.out.mod.size hk)
            go_wp2_with fail
            refine (put1 w wr _ _ _ _ g bs2 gk n _ rfl HST2.out hfr (by have := HLEN.out; omega) (by omega) (by omega) hn).mono ?_
            rintro e w' ⟨rfl, k, hk1, hk2, hst3⟩
            have HST3 := Lib.hid hst3
            clear hst3
            go_wp2_with fail
            go_roundg (gk - k)
            case measure => omega
            case rel =>
              refine ⟨by omega, _, HST3.out, ?_⟩
              show bs2 ++ nb (n / 2 ^ (gk - k)) k ++ nb n (gk - k) = bs ++ nb n wd
              rw [List.append_assoc, ← nb_split n gk k hk2]
              exact hb2.out
end Go.Proofs.YtemkfkaggdpcjaaDoor
