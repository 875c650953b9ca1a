/- A Hash that no call made; HashNone: the walk. -/
import Derived.Test.YtclndenmmhdokaaDoorH24
namespace Go.Proofs.YtclndenmmhdokaaDoor
open Go Go.RowKit Go.Proofs.YtclndenmmhdokaaDoorW.PrintWords Go.Proofs.YtclndenmmhdokaaDoorW.PrintMore Go.Proofs.YtclndenmmhdokaaDoorW.PrintLast Bq
set_option linter.unusedVariables false
set_option linter.unusedSimpArgs false
attribute [local go_sem ↓] Go.wp_at_zero Go.wp_at_succ
/-- A pointer to a Hash that no call made, or to none. -/
def Unm (w : World) (p : Option Addr) : Prop := p = none ∨ ∃ (g : Nat) (v : Sha.V8) (vl : Value) (n : Int), p = some ⟨g, 0, none⟩ ∧ w.heap[g]? = some (.cells (hCells false v vl n) 46 (0, 0))
theorem Unm.below {w w1 : World} {p : Option Addr} (h : Unm w p) (hb : Below w.heap.size w w1) : Unm w1 p := by
  rcases h with h | ⟨g, v, vl, n, e, hg⟩
  · exact .inl h
  · exact .inr ⟨g, v, vl, n, e, (hb.block g (blk_lt hg)).trans hg⟩
theorem hok_un (w : World) (p : Option Addr) (h : Unm w p) : Calls Tryd.prog 47 #[.pointer p] w fun e w' => e = .returned (.bool false) ∧ w = w' := by
  rcases h with rfl | ⟨g, v, vl, n, rfl, hg⟩
  · exact hok_nil w
  · exact hok_made w g false v vl n hg
theorem hwrite_un (w : World) (p : Option Addr) (A : Option Addr) (l c : Nat) (h : Unm w p) : Calls Tryd.prog 22 #[.pointer p, .slice A l c] w fun e w' => e = .returned (.int .i64 2) ∧ w = w' := by
  have H := Lib.hid h
  clear h
  go_enter Tryd.func22, Tryd.ntmps22
  go_wp2_with (go_at_call 47; refine (hok_un w p H.out).mono ?_; rintro e w' ⟨rfl, rfl⟩)
  go_ret
  exact ⟨rfl, rfl⟩
theorem hlen_un (w : World) (p : Option Addr) (h : Unm w p) : Calls Tryd.prog 24 #[.pointer p] w fun e w' => e = .returned (.int .i64 0) ∧ w = w' := by
  have H := Lib.hid h
  clear h
  go_enter Tryd.func24, Tryd.ntmps24
  go_wp2_with (go_at_call 47; refine (hok_un w p H.out).mono ?_; rintro e w' ⟨rfl, rfl⟩)
  go_ret
  exact ⟨rfl, rfl⟩
theorem hclone_un (w : World) (p : Option Addr) (h : Unm w p) : Calls Tryd.prog 21 #[.pointer p] w fun e w' => e = .returned (.pointer none) ∧ w = w' := by
  have H := Lib.hid h
  clear h
  go_enter Tryd.func21, Tryd.ntmps21
  go_wp2_with (go_at_call 47; refine (hok_un w p H.out).mono ?_; rintro e w' ⟨rfl, rfl⟩)
  go_ret
  exact ⟨rfl, rfl⟩
theorem hsum_un (w : World) (p : Option Addr) (h : Unm w p) : Calls Tryd.prog 23 #[.pointer p] w fun e w' => e = .returned (.agg (nums .u8 (List.replicate 32 0)).toArray) ∧ Below w.heap.size w w' := by
  have H := Lib.hid h
  clear h
  obtain ⟨D, hD⟩ : ∃ D, D = List.replicate 32 (0 : Int) := ⟨_, rfl⟩
  have hDl : D.length = 32 := by rw [hD, List.length_replicate]
  have HD := Lib.hid hD
  clear hD
  go_enter Tryd.func23, Tryd.ntmps23
  go_upto_region 2 with fail
  obtain ⟨w2, hw2⟩ : ∃ w2, w2 = ((w.alloc (.cells (nums .u8 (List.replicate 32 0)).toArray 25)).alloc (.cells (nums .u8 (List.replicate 32 0)).toArray 25)) := ⟨_, rfl⟩
  have k2 : Two w w2 D := by
    rw [hw2, HD.out]
    refine ⟨blk_alloc (blk_new w _) _, ?_, ((Below.refl _ w).alloc (Nat.le_refl _) _).alloc (by simp) _⟩
    have h := blk_new (w.alloc (.cells (nums .u8 (List.replicate 32 0)).toArray 25)) (.cells (nums .u8 (List.replicate 32 0)).toArray 25)
    rw [World.size_alloc] at h
    exact h
  change Code.wp _ _ _ _ ((w.alloc (.cells (nums .u8 (List.replicate 32 0)).toArray 25)).alloc (.cells (nums .u8 (List.replicate 32 0)).toArray 25))
  rw [← hw2]
  have K2 := Lib.hid k2
  clear hw2 k2
  go_upto_region 3 with (go_at_call 47; refine (hok_un w2 p (H.out.below K2.out.b)).mono ?_; rintro e w' ⟨rfl, rfl⟩)
  have hl9 : (nums .u8 D).length = 32 := by rw [nums_length, hDl]
  have hfin : Hid (Blk (putA w2 w.heap.size .u8 D) w.heap.size .u8 25 D) := Lib.hid (K2.out.r.putA (by rw [hDl]; rfl))
  have hbel : Hid (Below w.heap.size w (putA w2 w.heap.size .u8 D)) := Lib.hid (putA_below K2.out.b (Nat.le_refl _))
  have e32 : (nums .u8 D).toArray.size = 32 := by rw [List.size_toArray, hl9]
  have hth : w2.there w.heap.size 0 (nums .u8 D).toArray.size := by
    rw [e32]
    exact K2.out.r.there
  have hsz9 : (Tryd.prog.info? 25).map (·.size) = some (nums .u8 D).toArray.size := by
    have e2 : (Tryd.prog.info? 25).map (·.size) = some 32 := by kernel_rfl
    rw [e32]
    exact e2
  refine wp_region_lit ?_
  refine wpList_load_mid rfl _ _ rfl (w.heap.size + 1) 0 rfl (nums .u8 D) _ K2.out.o.range Tryd.underlying25 rfl (by rw [hl9]; kernel_rfl) ?_
  refine wpList_store_mid rfl _ _ _ rfl w.heap.size 0 (nums .u8 D).toArray rfl rfl hth hsz9 (all_oneCell_toArray (nums_one .u8 D)) ?_
  rw [List.toList_toArray]
  change wpList _ _ _ _ _ (putA w2 w.heap.size .u8 D)
  go_wp2_with fail
  refine bodyPost_ret (results_cell_row rfl _ _ w.heap.size 25 (nums .u8 D).toArray (0, 0) _ rfl hfin.out Tryd.underlying25 rfl hsz9) rfl ⟨?_, hbel.out⟩
  rw [HD.out]
def zero8 : Sha.V8 := ⟨0, 0, 0, 0, 0, 0, 0, 0⟩
set_option maxHeartbeats 4000000 in
theorem hashNone_calls (w : World) (A : Option Addr) (l c : Nat) (hT : ∀ i, i < 64 → w.cell? ⟨0, i, none⟩ = some (.int .u32 (Sha.K.getD i 0))) :
    Calls Tryd.prog 6 #[.slice A l c] w fun e w' => e = .returned (.bool true) ∧ Below w.heap.size w w' := by
  have HT := Lib.hid (fun (W : World) (hW : Below w.heap.size w W) (i : Nat) (hi : i < 64) => (hW.cell (World.block_lt_of_cell? w _ (hT i hi))).trans (hT i hi))
  have HLIVE := Lib.hid (fun (W : World) (hW : Below w.heap.size w W) => live_calls W (HT.out W hW))
  clear hT
  go_enter Tryd.func6, Tryd.ntmps6
  go_upto_region 2 with fail
  obtain ⟨w1, hw1⟩ : ∃ w1, w1 = ((w.alloc (.cells (hCells false zero8 (.slice none 0 0) 0) 46)).alloc (.cells #[.pointer none, .pointer (some ⟨w.heap.size, 0, none⟩)] 36)) := ⟨_, rfl⟩
  change Code.wp _ _ _ _ ((w.alloc (.cells (hCells false zero8 (.slice none 0 0) 0) 46)).alloc (.cells #[.pointer none, .pointer (some ⟨w.heap.size, 0, none⟩)] 36))
  have hb1 : w1.heap[w.heap.size + 1]? = some (.cells #[.pointer none, .pointer (some ⟨w.heap.size, 0, none⟩)] 36 (0, 0)) := by
    have h := heap_alloc_new (w.alloc (.cells (hCells false zero8 (.slice none 0 0) 0) 46)) (.cells #[.pointer none, .pointer (some ⟨w.heap.size, 0, none⟩)] 36)
    rw [World.size_alloc] at h
    rw [hw1]
    exact h
  have hu1 : Unm w1 (some ⟨w.heap.size, 0, none⟩) := .inr ⟨w.heap.size, zero8, .slice none 0 0, 0, rfl, by rw [hw1]; exact blk_alloc (heap_alloc_new w _) _⟩
  have hB1 : Below w.heap.size w w1 := by
    rw [hw1]
    exact ((Below.refl _ w).alloc (Nat.le_refl _) _).alloc (by rw [World.size_alloc]; omega) _
  have hs1 : w1.heap.size = w.heap.size + 2 := by rw [hw1, World.size_alloc, World.size_alloc]
  rw [← hw1]
  have HC1 := Lib.hid (fun (W : World) (hW : Below w1.heap.size w1 W) => (And.intro ((hW.cell (by rw [hs1]; show w.heap.size + 1 < _; omega)).trans (blk_cell hb1 0)) ((hW.cell (by rw [hs1]; show w.heap.size + 1 < _; omega)).trans (blk_cell hb1 1)) : W.cell? ⟨w.heap.size + 1, 0, none⟩ = _ ∧ W.cell? ⟨w.heap.size + 1, 1, none⟩ = _))
  have HU1 := Lib.hid hu1
  have HB1 := Lib.hid hB1
  clear hw1 hb1 hu1 hB1 hs1
  obtain ⟨D, hD⟩ : ∃ D, D = List.replicate 32 (0 : Int) := ⟨_, rfl⟩
  have CS : Hid (∀ (W : World) (p : Option Addr), Unm W p → Calls Tryd.prog 23 #[.pointer p] W fun e w' => e = .returned (.agg (nums .u8 D).toArray) ∧ Below W.heap.size W w') := Lib.hid (fun W p h => by
    have h := hsum_un W p h
    rw [← hD] at h
    exact h)
  have hae : ∀ W : World, Sem.run Tryd.prog (Op.equalIn 10000 25 (.agg (nums .u8 D).toArray) (.agg #[.int .u8 0, .int .u8 0, .int .u8 0, .int .u8 0, .int .u8 0, .int .u8 0, .int .u8 0, .int .u8 0, .int .u8 0, .int .u8 0, .int .u8 0, .int .u8 0, .int .u8 0, .int .u8 0, .int .u8 0, .int .u8 0, .int .u8 0, .int .u8 0, .int .u8 0, .int .u8 0, .int .u8 0, .int .u8 0, .int .u8 0, .int .u8 0, .int .u8 0, .int .u8 0, .int .u8 0, .int .u8 0, .int .u8 0, .int .u8 0, .int .u8 0, .int .u8 0])) W = .ok true W := fun W => by
    have h := arr_eq W D D (by rw [hD]; rfl) (by rw [hD]; rfl) (by rw [hD]; exact Sha.byts_zeros 32) (by rw [hD]; exact Sha.byts_zeros 32)
    rw [decide_eq_true rfl] at h
    have e : (.agg #[.int .u8 0, .int .u8 0, .int .u8 0, .int .u8 0, .int .u8 0, .int .u8 0, .int .u8 0, .int .u8 0, .int .u8 0, .int .u8 0, .int .u8 0, .int .u8 0, .int .u8 0, .int .u8 0, .int .u8 0, .int .u8 0, .int .u8 0, .int .u8 0, .int .u8 0, .int .u8 0, .int .u8 0, .int .u8 0, .int .u8 0, .int .u8 0, .int .u8 0, .int .u8 0, .int .u8 0, .int .u8 0, .int .u8 0, .int .u8 0, .int .u8 0, .int .u8 0] : Value) = .agg (nums .u8 D).toArray := by rw [hD]; rfl
    rw [e]
    exact h
  clear hD
  go_loopg [9] 2 (fun kq s9 wr => ∃ k : Nat, k + kq = 2 ∧ s9 = .int .i64 k ∧ Hid (Below w1.heap.size w1 wr))
  case atStart => exact ⟨0, by omega, rfl, Below.refl _ _⟩
  case round =>
    obtain ⟨k, hk, rfl, hBr⟩ := hrel
    by_cases hlt : k < 2
    · obtain ⟨p, hp, hU⟩ : ∃ p, wr.cell? ⟨w.heap.size + 1, k, none⟩ = some (.pointer p) ∧ Unm wr p := by
        have h := HC1.out wr hBr.out
        rcases Nat.lt_or_ge k 1 with h1 | h1
        · have e : k = 0 := by omega
          subst e
          exact ⟨none, h.1, .inl rfl⟩
        · have e : k = 1 := by omega
          subst e
          exact ⟨_, h.2, HU1.out.below hBr.out⟩
      have HU := Lib.hid hU
      clear hU
      have hki : (k : Int) < 2 := by omega
      go_wp2_with (first | (go_at_call 22; refine (hwrite_un _ p _ 1 1 (HU.out.below (below_alloc (Below.refl _ wr) _))).mono ?_; rintro e w5 ⟨rfl, hw5⟩; have hb5 : Below wr.heap.size wr w5 := (by rw [← hw5]; exact below_alloc (Below.refl _ wr) _); have HB5 := Lib.hid hb5; clear hw5 hb5) | (go_at_call 23; refine (CS.out w5 p (HU.out.below HB5.out)).mono ?_; rintro e w6 ⟨rfl, hB6⟩; have HB6 := Lib.hid (HB5.out.trans (below_lower hB6 HB5.out.size)); clear hB6) | (go_at_call 24; refine (hlen_un w6 p (HU.out.below HB6.out)).mono ?_; rintro e w7 ⟨rfl, rfl⟩) | (go_at_call 21; refine (hclone_un _ p (HU.out.below HB6.out)).mono ?_; rintro e w7 ⟨rfl, rfl⟩))
      go_roundg (gk - 1)
      case measure => omega
      case rel => exact ⟨k + 1, by omega, by go_num, hBr.out.trans (below_lower HB6.out hBr.out.size)⟩
    · go_wp2_with (go_at_call 12; refine (HLIVE.out wr (HB1.out.trans (below_lower hBr.out HB1.out.size))).mono ?_; rintro e w3 ⟨rfl, hB3⟩; have HB3 := Lib.hid ((HB1.out.trans (below_lower hBr.out HB1.out.size)).trans (below_lower hB3 (HB1.out.trans (below_lower hBr.out HB1.out.size)).size)); clear hB3)
      go_ret
      exact ⟨rfl, HB3.out⟩
end Go.Proofs.YtclndenmmhdokaaDoor
