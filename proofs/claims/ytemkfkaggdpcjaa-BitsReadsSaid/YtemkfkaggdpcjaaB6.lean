/- The Reader: Get. -/
import Derived.Test.YtemkfkaggdpcjaaB5
import Derived.Deep.LoopGhost
namespace Go.Proofs.Ytemkfkaggdpcjaa
open Go.RowKit Go.Proofs.YtemkfkaggdpcjaaW.PrintWords Go.Proofs.YtemkfkaggdpcjaaW.PrintMore Bq
set_option linter.unusedVariables false
set_option linter.unusedSimpArgs false
attribute [local go_sem ↓] Go.wp_at_zero Go.wp_at_succ

def getE (rem : List Bool) (width : Int) : Int := if width < 0 ∨ 64 < width then 1 else if (rem.length : Int) < width then 6 else 0
def getN (rem : List Bool) (width : Int) : Int := if getE rem width = 0 then bnum (rem.take width.toNat) else 0
def getR (rem : List Bool) (width : Int) : List Bool := if getE rem width = 0 then rem.drop width.toNat else rem

theorem take_next (xs : List Int) (a n k : Nat) (h : a + k < n) : ((bitsOf xs n).drop a).take (k + 1) = ((bitsOf xs n).drop a).take k ++ [bitAt xs (a + k)] := by
  have hl : k < ((bitsOf xs n).drop a).length := by rw [List.length_drop, bitsOf_length]; omega
  rw [List.take_succ_eq_append_getElem hl, List.getElem_drop, bitsOf_get xs n (a + k) h]
/-- One bit more. -/
theorem next_bit (xs : List Int) (o k c : Nat) (x : Int) (hk : k < 64) (ho : o < 2 ^ k) (hx0 : 0 ≤ x) (hx1 : x < 256) (hx : x = rdOf 0 xs ((c / 8 : Nat) : Int)) :
    bits .or .u64 (IntKind.u64.wrap ((o : Int) * 2)) (IntKind.u64.wrap (bits .and .u8 (x / 2 ^ (7 - c % 8)) 1)) = ((2 * o + (bitAt xs c).toNat : Nat) : Int) := by
  obtain ⟨y, rfl⟩ := Int.eq_ofNat_of_zero_le hx0
  have hp : (2 : Nat) ^ k ≤ 2 ^ 63 := Nat.pow_le_pow_right (by decide) (by omega)
  have hy : y / 2 ^ (7 - c % 8) < 256 := Nat.lt_of_le_of_lt (Nat.div_le_self _ _) (by omega)
  have e1 : ((y : Int) / 2 ^ (7 - c % 8)) = ((y / 2 ^ (7 - c % 8) : Nat) : Int) := by simp
  have hb : (bitAt xs c).toNat = y / 2 ^ (7 - c % 8) % 2 := by
    unfold bitAt
    have hy2 : xs.getD (c / 8) 0 = (y : Int) := by rw [hx]; unfold rdOf; rw [Int.toNat_natCast]
    rw [hy2, Int.toNat_natCast, Nat.toNat_testBit]
  rw [hb, e1]
  generalize y / 2 ^ (7 - c % 8) = m at *
  have e2 : bits .and .u8 (m : Int) 1 = (m : Int) % 2 := by
    have := bits_mask .u8 8 (by decide) wraps_u8 1 (by omega) (m : Int) (Int.natCast_nonneg _) (by omega)
    simpa using this
  rw [e2, wraps_u64 _ (by omega) (by omega), wraps_u64 _ (by omega) (by omega)]
  rw [bits_join .u64 64 (by decide) wraps_u64 1 _ _ (by omega) (by omega) (by omega) (by omega) (by omega) (by omega)]
  omega

theorem RdB.step {w0 w : World} {ok : Nat → Prop} {g c n gr cap : Nat} {xs : List Int} (h : RdB w ok g c n (.slice (some ⟨gr, 0, none⟩) xs.length cap) xs) (hm : Mod (fun k => k = g) w0 w) (hc : c < n) :
    RdB (w.setCell ⟨g, 1, none⟩ (.int .i64 ((c : Int) + 1))) ok g (c + 1) n (.slice (some ⟨gr, 0, none⟩) xs.length cap) xs ∧ Mod (fun k => k = g) w0 (w.setCell ⟨g, 1, none⟩ (.int .i64 ((c : Int) + 1))) :=
  ⟨⟨blk_set h.blk 1 (.int .i64 ((c : Int) + 1)), Kd.R_set h.row h.blk (by decide) 1 _, h.okg, hc, h.le8, h.byts, h.small⟩, hm.setCell (.inl rfl) _⟩

set_option maxHeartbeats 4000000 in
theorem get_calls (w : World) (ok : Nat → Prop) (g : Nat) (rem : List Bool) (width : Int) (hW : Rd w ok g rem)
    (hw1 : -9223372036854775808 ≤ width) (hw2 : width ≤ 9223372036854775807) :
    Calls Try.prog 30 #[.pointer (some ⟨g, 0, none⟩), .int .i64 width] w fun e w' =>
      e = .returned (.tuple #[.int .u64 (getN rem width), .int .i64 (getE rem width)]) ∧ Rd w' ok g (getR rem width) ∧ Mod (fun k => k = g) w w' := by
  obtain ⟨a, n, v, xs, h, hrem⟩ := hW
  have hlen : rem.length = n - a := by rw [hrem, List.length_drop, bitsOf_length]
  have hg := h.blk
  have hle := h.le
  have hle8 := h.le8
  have hsm := h.small
  have H := Lib.hid h
  have HREM := Lib.hid hrem
  have HLEN := Lib.hid hlen
  clear h hrem hlen
  have g1 : w.cell? ⟨g, 1, none⟩ = some (.int .i64 a) := (blk_cell hg 1).trans rfl
  have g2 : w.cell? ⟨g, 2, none⟩ = some (.int .i64 n) := (blk_cell hg 2).trans rfl
  have hsub : IntKind.i64.wrap ((n : Int) - a) = (n : Int) - a := IntWalk.i64_in _ (by omega)
  have hfin : ∀ x : Int, x = getE rem width → x ≠ 0 → Rd w ok g (getR rem width) ∧ Mod (fun k => k = g) w w ∧ getN rem width = 0 := by
    intro x hx h0
    unfold getR getN
    rw [if_neg (by rw [← hx]; exact h0), if_neg (by rw [← hx]; exact h0)]
    exact ⟨⟨a, n, v, xs, H.out, HREM.out⟩, Mod.refl _ _, rfl⟩
  have HF := Lib.hid hfin
  clear hfin
  by_cases h1 : width < 0
  · have hE : getE rem width = 1 := by unfold getE; rw [if_pos (Or.inl h1)]
    have HE := Lib.hid hE
    clear hE
    go_enter Try.func30, Try.ntmps30
    go_wp2_with (go_at_call 43; refine (rok_made _ _ _ _ _ _ hg).mono ?_; rintro e w' ⟨rfl, rfl⟩)
    go_ret2
    obtain ⟨b1, b2, b3⟩ := HF.out 1 HE.out.symm (by decide)
    exact ⟨by rw [HE.out, b3]; rfl, b1, b2⟩
  · by_cases h2 : 64 < width
    · have hE : getE rem width = 1 := by unfold getE; rw [if_pos (Or.inr h2)]
      have HE := Lib.hid hE
      clear hE
      go_enter Try.func30, Try.ntmps30
      go_wp2_with (go_at_call 43; refine (rok_made _ _ _ _ _ _ hg).mono ?_; rintro e w' ⟨rfl, rfl⟩)
      go_ret2
      obtain ⟨b1, b2, b3⟩ := HF.out 1 HE.out.symm (by decide)
      exact ⟨by rw [HE.out, b3]; rfl, b1, b2⟩
    · by_cases h3 : (n : Int) - a < width
      · have hd : decide ((n : Int) - a < width) = true := decide_eq_true h3
        have hE : getE rem width = 6 := by unfold getE; rw [if_neg (by omega), if_pos (by have := HLEN.out; omega)]
        have HE := Lib.hid hE
        clear hE
        go_enter Try.func30, Try.ntmps30
        go_wp2_with (go_at_call 43; refine (rok_made _ _ _ _ _ _ hg).mono ?_; rintro e w' ⟨rfl, rfl⟩)
        go_quiet (fail)
        go_wp2_with fail
        go_ret2
        obtain ⟨b1, b2, b3⟩ := HF.out 6 HE.out.symm (by decide)
        obtain ⟨a1, a2, a3, a4, a5, a6⟩ := b1
        exact ⟨by rw [HE.out, b3]; rfl, ⟨a1, a2, a3, a4, a5.drewN _, a6⟩, b2.drewN _⟩
      · have hd : decide ((n : Int) - a < width) = false := decide_eq_false h3
        have hE : getE rem width = 0 := by unfold getE; rw [if_neg (by omega), if_neg (by have := HLEN.out; omega)]
        have HE := Lib.hid hE
        clear hE
        obtain ⟨wd, hwd⟩ := Int.eq_ofNat_of_zero_le (show 0 ≤ width by omega)
        have hwd2 : wd ≤ 64 := by omega
        have hwd3 : a + wd ≤ n := by omega
        subst hwd
        have hb1 : decide ((wd : Int) < 0) = false := decide_eq_false (by omega)
        have hb2 : decide (64 < (wd : Int)) = false := decide_eq_false (by omega)
        go_enter Try.func30, Try.ntmps30
        go_wp2_with (go_at_call 43; refine (rok_made _ _ _ _ _ _ hg).mono ?_; rintro e w' ⟨rfl, rfl⟩)
        go_quiet (fail)
        go_wp2_with fail
        have hl0 := H.out.row
        clear g1 g2 hg hd hsub
        go_loopg [6, 28] wd (fun kq s6 s28 wr => ∃ k, k + kq = wd ∧ s28 = .int .i64 k ∧ s6 = .int .u64 (bnum (rem.take k)) ∧ RdB wr ok g (a + k) n v xs ∧ Mod (fun k => k = g) w wr)
        case atStart => exact ⟨0, by omega, rfl, rfl, H.out.drewN _, (Mod.refl _ _).drewN _⟩
        case round =>
          obtain ⟨k, hk, rfl, rfl, hr, hm⟩ := hrel
          have HM := Lib.hid hm
          have HR := Lib.hid hr
          clear hm hr hl0
          obtain ⟨o, ho⟩ : ∃ o, o = bnum (rem.take k) := ⟨_, rfl⟩
          have hob : o < 2 ^ k := by
            rw [ho]
            have := bnum_lt (rem.take k)
            have h2 : (rem.take k).length ≤ k := List.length_take_le _ _
            exact Nat.lt_of_lt_of_le this (Nat.pow_le_pow_right (by decide) h2)
          rw [← ho]
          have HO := Lib.hid ho
          have HOB := Lib.hid hob
          clear ho hob
          by_cases hz : gk = 0
          · subst hz
            have hkw : ¬ ((k : Int) < (wd : Int)) := by omega
            go_wp2_with fail
            go_ret2
            have hke : k = wd := by omega
            subst hke
            refine ⟨?_, ?_, HM.out⟩
            · unfold getN
              rw [if_pos HE.out, HE.out, Int.toNat_natCast, ← HO.out]
              rfl
            · unfold getR
              rw [if_pos HE.out, Int.toNat_natCast, HREM.out, List.drop_drop]
              exact ⟨_, _, _, _, HR.out, rfl⟩
          · have hkw : (k : Int) < (wd : Int) := by omega
            obtain ⟨c, hc⟩ : ∃ c, c = a + k := ⟨_, rfl⟩
            have hr2 := HR.out
            rw [← hc] at hr2
            have hcn : c < n := by omega
            have hc8 : c / 8 < xs.length := by have := hr2.le8; omega
            have hxb := hr2.byts
            have hsm2 := hr2.small
            obtain ⟨gr, cap, hv, _, hgr, _⟩ := Kd.R_form hr2.row (by omega)
            subst hv
            have hg := hr2.blk
            have g1 : wr.cell? ⟨g, 1, none⟩ = some (.int .i64 c) := (blk_cell hg 1).trans rfl
            have g3 : wr.cell? ⟨g, 3, none⟩ = some (.slice (some ⟨gr, 0, none⟩) xs.length cap) := (blk_cell hg 3).trans rfl
            have f1 := blk_frozen hg 1
            have r1 := (own_at_of (d := 0) (Kd.own_of_R hr2.row) (i := ((c / 8 : Nat) : Int)) (by omega) (by omega)).1
            rw [Int.toNat_natCast] at r1
            have hx0 : 0 ≤ rdOf 0 xs ((c / 8 : Nat) : Int) ∧ rdOf 0 xs ((c / 8 : Nat) : Int) < 256 := by
              unfold rdOf
              rw [Int.toNat_natCast, List.getD_eq_getElem?_getD, List.getElem?_eq_getElem hc8]
              exact hxb _ (List.getElem_mem hc8)
            obtain ⟨x, hx⟩ : ∃ x, x = rdOf 0 xs ((c / 8 : Nat) : Int) := ⟨_, rfl⟩
            rw [← hx] at r1 hx0
            obtain ⟨hx1, hx2⟩ := hx0
            have HX := Lib.hid hx
            have HC := Lib.hid hc
            have HR2 := Lib.hid hr2
            clear hx hc hr2 hxb
            have e1 : IntKind.i64.wrap ((c : Int) / 8) = (c : Int) / 8 := IntWalk.i64_in _ (by omega)
            have e2 : (0 : Int) ≤ (c : Int) / 8 := by omega
            have e3 : ((c : Int) / 8).toNat = c / 8 := by omega
            have e4 : (c : Int) / 8 < (xs.length : Int) := by omega
            have e5 : IntKind.i64.wrap (7 - (c : Int) % 8) = 7 - (c : Int) % 8 := IntWalk.i64_in _ (by omega)
            have e6 : (0 : Int) ≤ 7 - (c : Int) % 8 := by omega
            have e7 : (0 : Int) ≤ (c : Int) := by omega
            go_wp2_with fail
            go_quiet (fail)
            go_wp2_with fail
            go_roundg (gk - 1)
            case measure => omega
            case rel =>
              have hst := RdB.step (HR2.out.drewN nq) (HM.out.drewN nq) hcn
              refine ⟨k + 1, by omega, by go_num, ?_, by rw [← Nat.add_assoc, ← HC.out]; exact hst.1, hst.2⟩
              congr 1
              rw [next_bit xs o k c x (by omega) HOB.out hx1 (by omega) HX.out, HREM.out, take_next xs a n k (by rw [← HC.out]; exact hcn), bnum_snoc, ← HREM.out, ← HO.out, HC.out]
end Go.Proofs.Ytemkfkaggdpcjaa
