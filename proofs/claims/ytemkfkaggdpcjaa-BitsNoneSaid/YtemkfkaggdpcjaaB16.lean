/- BitsNone: its walk. -/
import Derived.Test.YtemkfkaggdpcjaaB15
namespace Go.Proofs.Ytemkfkaggdpcjaa
open Go.RowKit Go.Proofs.YtemkfkaggdpcjaaW.PrintWords Go.Proofs.YtemkfkaggdpcjaaW.PrintMore Go.Proofs.YtemkfkaggdpcjaaW.PrintLast Bq
set_option linter.unusedVariables false
set_option linter.unusedSimpArgs false
attribute [local go_sem ↓] Go.wp_at_zero Go.wp_at_succ

set_option maxHeartbeats 2000000 in
theorem bitsNone_calls (w : World) (n width : Int) :
    Calls Try.prog 8 #[.int .u64 n, .int .i64 width] w fun e w' => e = .returned (.bool true) ∧ Below w.heap.size w w' := by
  have hw0 := blk_alloc (blk_new w (.cells #[.bool false, .int .i64 0, .slice none 0 0] 61)) (.cells #[.pointer none, .pointer (some ⟨w.heap.size, 0, none⟩)] 24)
  have hr0 := blk_new (w.alloc (.cells #[.bool false, .int .i64 0, .slice none 0 0] 61)) (.cells #[.pointer none, .pointer (some ⟨w.heap.size, 0, none⟩)] 24)
  have hb0 : Below w.heap.size w ((w.alloc (.cells #[.bool false, .int .i64 0, .slice none 0 0] 61)).alloc (.cells #[.pointer none, .pointer (some ⟨w.heap.size, 0, none⟩)] 24)) := ((Below.refl _ w).alloc (Nat.le_refl _) _).alloc (by simp) _
  simp only [World.size_alloc] at hr0
  go_enter Try.func8, Try.ntmps8
  go_wp2_with fail
  generalize ((w.alloc (.cells #[.bool false, .int .i64 0, .slice none 0 0] 61)).alloc (.cells #[.pointer none, .pointer (some ⟨w.heap.size, 0, none⟩)] 24)) = w1 at *
  have HW0 := Lib.hid hw0
  have HR0 := Lib.hid hr0
  have HB0 := Lib.hid hb0
  clear hw0 hr0 hb0
  go_loopg [15] 2 (fun kq s15 wr => ∃ k : Nat, k + kq = 2 ∧ s15 = .int .i64 k ∧ Hid (wr.heap[w.heap.size]? = some (.cells #[.bool false, .int .i64 0, .slice none 0 0] 61 (0, 0))) ∧ Hid (wr.heap[w.heap.size + 1]? = some (.cells #[.pointer none, .pointer (some ⟨w.heap.size, 0, none⟩)] 24 (0, 0))) ∧ Hid (Below w.heap.size w wr))
  case atStart => exact ⟨0, rfl, rfl, HW0.out, HR0.out, HB0.out⟩
  case round =>
    obtain ⟨k, hk, rfl, hW, hR, hB⟩ := hrel
    by_cases hlt : k < 2
    · obtain ⟨p, hc, hp⟩ : ∃ p, wr.cell? ⟨w.heap.size + 1, k, none⟩ = some (.pointer p) ∧ NoW wr p := by
        rcases (show k = 0 ∨ k = 1 by omega) with rfl | rfl
        · exact ⟨none, (blk_cell hR.out 0).trans rfl, .inl rfl⟩
        · exact ⟨_, (blk_cell hR.out 1).trans rfl, .inr ⟨_, _, _, rfl, hW.out⟩⟩
      have HP := Lib.hid hp
      clear hp
      go_wp2_with fail
      refine (noW_put wr p n width HP.out).mono ?_
      rintro e w2 ⟨rfl, hB2⟩
      have HP2 := Lib.hid (HP.out.below hB2)
      have hW2 := Lib.hid ((hB2.block _ (blk_lt hW.out)).trans hW.out)
      have hR2 := Lib.hid ((hB2.block _ (blk_lt hR.out)).trans hR.out)
      have HB2 := Lib.hid (hB.out.trans (hB2.mono hB.out.size))
      clear hB2 hc
      go_wp2_with (first | (go_at_call 16; refine (noW_len w2 p HP2.out).mono ?_; rintro e w' ⟨rfl, rfl⟩) | (go_at_call 18; refine (noW_bytes w2 p HP2.out).mono ?_; rintro e w' ⟨rfl, rfl⟩) | (go_at_call 12; refine (noW_clone w2 p HP2.out).mono ?_; rintro e w' ⟨rfl, rfl⟩))
      go_roundg (gk - 1)
      case measure => omega
      case rel => exact ⟨k + 1, by omega, by go_num, hW2.out, hR2.out, HB2.out⟩
    · have hk2 : k = 2 := by omega
      subst hk2
      go_wp2_with fail
      have hB9 := hB
      clear hW hR hB HW0 HR0 HB0
      have hs9 : w.heap.size ≤ wr.heap.size := hB9.out.size
      have hw0 := blk_alloc (blk_new wr (.cells #[.bool false, .int .i64 0, .int .i64 0, .slice none 0 0] 64)) (.cells #[.pointer none, .pointer (some ⟨wr.heap.size, 0, none⟩)] 50)
      have hr0 := blk_new (wr.alloc (.cells #[.bool false, .int .i64 0, .int .i64 0, .slice none 0 0] 64)) (.cells #[.pointer none, .pointer (some ⟨wr.heap.size, 0, none⟩)] 50)
      have hb0 : Below w.heap.size w ((wr.alloc (.cells #[.bool false, .int .i64 0, .int .i64 0, .slice none 0 0] 64)).alloc (.cells #[.pointer none, .pointer (some ⟨wr.heap.size, 0, none⟩)] 50)) := (hB9.out.alloc hs9 _).alloc (by simp; omega) _
      simp only [World.size_alloc] at hr0
      generalize ((wr.alloc (.cells #[.bool false, .int .i64 0, .int .i64 0, .slice none 0 0] 64)).alloc (.cells #[.pointer none, .pointer (some ⟨wr.heap.size, 0, none⟩)] 50)) = w1' at *
      have HW0 := Lib.hid hw0
      have HR0 := Lib.hid hr0
      have HB0 := Lib.hid hb0
      clear hw0 hr0 hb0
      generalize wr.heap.size = r0 at *
      go_loopg [45] 2 (fun kq s45 wz => ∃ k : Nat, k + kq = 2 ∧ s45 = .int .i64 k ∧ wz = w1')
      case atStart => exact ⟨0, rfl, rfl, rfl⟩
      case round =>
        obtain ⟨k, hk, rfl, rfl⟩ := hrel
        by_cases hlt : k < 2
        · obtain ⟨p, hc, hp⟩ : ∃ p, wr.cell? ⟨r0 + 1, k, none⟩ = some (.pointer p) ∧ NoR wr p := by
            rcases (show k = 0 ∨ k = 1 by omega) with rfl | rfl
            · exact ⟨none, (blk_cell HR0.out 0).trans rfl, .inl rfl⟩
            · exact ⟨_, (blk_cell HR0.out 1).trans rfl, .inr ⟨_, _, _, _, rfl, HW0.out⟩⟩
          have HP := Lib.hid hp
          clear hp
          go_wp2_with (first | (go_at_call 30; refine (noR_get wr p width HP.out).mono ?_; rintro e w' ⟨rfl, rfl⟩) | (go_at_call 31; refine (noR_left wr p HP.out).mono ?_; rintro e w' ⟨rfl, rfl⟩) | (go_at_call 33; refine (noR_clone wr p HP.out).mono ?_; rintro e w' ⟨rfl, rfl⟩))
          go_roundg (gk - 1)
          case measure => omega
          case rel => exact ⟨k + 1, by omega, by go_num, rfl⟩
        · have hk2 : k = 2 := by omega
          subst hk2
          go_wp2_with fail
          refine (live_calls _).mono ?_
          rintro e w5 ⟨rfl, hB5⟩
          have HB5 := Lib.hid (HB0.out.trans (hB5.mono HB0.out.size))
          go_wp2_with fail
          go_ret
          exact ⟨rfl, HB5.out⟩
end Go.Proofs.Ytemkfkaggdpcjaa
