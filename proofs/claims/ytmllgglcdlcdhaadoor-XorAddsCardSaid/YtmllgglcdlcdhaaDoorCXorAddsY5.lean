import Derived.Test.YtmllgglcdlcdhaaDoorCXorAddsYM
import Derived.Test.YtmllgglcdlcdhaaDoorCXorAddsYD
import Derived.Test.YtmllgglcdlcdhaaDoorCXorAddsYH
import Derived.Test.YtmllgglcdlcdhaaDoorCXorAddsYA
namespace Go.Proofs.YtmllgglcdlcdhaaDoor.Bq
end Go.Proofs.YtmllgglcdlcdhaaDoor.Bq
section
namespace Go.Proofs.YtmllgglcdlcdhaaDoor
open Go Go.RowKit Go.Proofs.YtmllgglcdlcdhaaDoorW.PrintWords Go.Proofs.YtmllgglcdlcdhaaDoorW.PrintMore Go.Proofs.YtmllgglcdlcdhaaDoorW.PrintLast Bq Xs
set_option linter.unusedVariables false
set_option maxRecDepth 100000
set_option linter.unusedSimpArgs false
attribute [local go_sem ↓] Go.wp_at_zero Go.wp_at_succ
end Go.Proofs.YtmllgglcdlcdhaaDoor
end
section
namespace Go.Proofs.YtmllgglcdlcdhaaDoor
open Go Go.RowKit Go.Proofs.YtmllgglcdlcdhaaDoorW.PrintWords Go.Proofs.YtmllgglcdlcdhaaDoorW.PrintMore Go.Proofs.YtmllgglcdlcdhaaDoorW.PrintLast Bq Xs
set_option linter.unusedVariables false
set_option maxRecDepth 100000
set_option linter.unusedSimpArgs false
attribute [local go_sem ↓] Go.wp_at_zero Go.wp_at_succ
attribute [local go_sem] max2_int min2_int max_two min_two
theorem bytesB_take (xs : List Int) (i : Nat) (h : i < xs.length) : bytesB (xs.take (i + 1)) = bytesB (xs.take i) ++ nb (xs.getD i 0).toNat 8 := by
  rw [List.take_succ_eq_append_getElem h, List.getD_eq_getElem?_getD, List.getElem?_eq_getElem h]
  unfold bytesB
  rw [List.flatMap_append]
  simp
set_option maxHeartbeats 2000000 in
theorem raw_calls (w : World) (okb okr : Nat → Prop) (p g base : Nat) (bs : List Bool) (s : St) (v : Value) (xs : List Int)
    (hblk : w.heap[p]? = some (.cells (pkCells g s) 88 (0, 0))) (hW : Wr w okb g bs) (hp : ¬ okb p) (hR : (Kd.int .u8).R 5 w base okr v xs) (hd : ∀ k, okr k → ¬ okb k) (hb : Byts xs) (hl : bs.length + 8 * xs.length ≤ 8388608) :
    Calls Tryd.prog 62 #[.pointer (some ⟨p, 0, none⟩), v] w fun e w' => e = .returned (.tuple #[]) ∧ Wr w' (fun k => okb k ∨ w.heap.size ≤ k) g (bs ++ bytesB xs) ∧ Mod okb w w' := by
  obtain ⟨A, c, hv⟩ := Kd.R_slice hR
  subst hv
  have hpl := blk_lt hblk
  have HB := Lib.hid hblk
  have HW := Lib.hid hW
  have HR := Lib.hid (Kd.R_bound hR)
  have HD := Lib.hid hd
  have hxl : xs.length ≤ 1048576 := by omega
  have HY := Lib.hid hb
  clear hblk hW hR hd hb
  go_enter Tryd.func62, Tryd.ntmps62
  go_wp2
  go_loopg [7] xs.length (fun kq s7 wr => ∃ i : Nat, i + kq = xs.length ∧ s7 = .int .i64 i ∧ Hid (Wr wr (fun k => okb k ∨ w.heap.size ≤ k) g (bs ++ bytesB (xs.take i))) ∧ Hid (Mod okb w wr))
  case atStart => exact ⟨0, by omega, rfl, by rw [List.take_zero]; show Wr _ _ _ (bs ++ []); rw [List.append_nil]; exact HW.out.mono (fun _ h => .inl h), Mod.refl _ _⟩
  case round =>
    obtain ⟨i, hi, rfl, HWr, HM⟩ := hrel
    by_cases hlt : i < xs.length
    · have hRr := Kd.R_step HR.out (fun k ho hk => HM.out.block k hk (HD.out k ho.1))
      have hCr := (Kd.R_reads' hRr).2.2
      obtain ⟨ad, hA, hx⟩ := C_at_int hCr i hlt
      subst hA
      obtain ⟨x, hxe⟩ : ∃ x, x = xs.getD i 0 := ⟨_, rfl⟩
      rw [← hxe] at hx
      have hxb := HY.out.get i hlt
      rw [← hxe] at hxb
      obtain ⟨n, hn⟩ := Int.eq_ofNat_of_zero_le hxb.1
      subst hn
      have hn : n < 256 := by omega
      have HN : Hid (bytesB (xs.take (i + 1)) = bytesB (xs.take i) ++ nb n 8) := Lib.hid (by rw [bytesB_take xs i hlt, ← hxe, Int.toNat_natCast])
      have hlen : (bs ++ bytesB (xs.take i)).length + 8 ≤ 8388608 := by rw [List.length_append, bytesB_length, List.length_take]; omega
      have hq0 : wr.drew.cell? ⟨p, 0, none⟩ = some (.pointer (some ⟨g, 0, none⟩)) := (blk_cell (HM.out.blk HB.out hp) 0).trans rfl
      have hq1 : wr.drew.cell? (ad.add i) = some (.int .u8 n) := hx
      have HWd := Lib.hid (HWr.out.drewN 1)
      have HMd := Lib.hid (HM.out.drewN 1)
      have hdr : wr.drewN 1 = wr.drew := rfl
      rw [hdr] at HWd HMd
      have hn64 : IntKind.u64.wrap (n : Int) = (n : Int) := by rw [IntKind.wrap_u64]; omega
      clear hRr hCr hxe hxb hdr hx
      have HLE := Lib.hid hlen
      clear hlen
      go_upto_region 3 with fail
      refine start_ (n := 10) (S := fun w' => w'.cell? ⟨p, 0, none⟩ = some (.pointer (some ⟨g, 0, none⟩)) ∧ w'.cell? (ad.add i) = some (.int .u8 n)) (ds := [9]) #[false, false, false, false, false, false, false, false, false, false] (by kernel_rfl) rfl rfl ⟨hq0, hq1⟩ (fun hHeld => ?_)
      refine pure_ (i := 0) (N := some 10) (v := ?_) (a' := ?_) #[true, false, false, false, false, false, false, false, false, false] rfl rfl (by kernel_rfl) (fun _ _ _ h => h) (Or.inl ⟨by rfl, ?_⟩) ?_ ?_
      rotate_left
      · intro w'
        go_simp
        with_reducible rfl
      rotate_left
      · simp only [Act.put, List.setIfInBounds_toArray, List.set_cons_zero, List.set_cons_succ, i64_w, i32_w]
        rfl
      refine pure_ (i := 1) (N := some 11) (v := ?_) (a' := ?_) #[true, true, false, false, false, false, false, false, false, false] rfl rfl (by kernel_rfl) (fun _ _ _ h => h) (Or.inl ⟨by rfl, ?_⟩) ?_ ?_
      rotate_left
      · intro w'
        go_simp
        with_reducible rfl
      rotate_left
      · simp only [Act.put, List.setIfInBounds_toArray, List.set_cons_zero, List.set_cons_succ, i64_w, i32_w]
        rfl
      refine pure_ (i := 2) (N := some 12) (v := ?_) (a' := ?_) #[true, true, true, false, false, false, false, false, false, false] rfl rfl (by kernel_rfl) (fun _ _ _ h => h) (Or.inl ⟨by rfl, ?_⟩) ?_ ?_
      rotate_left
      · intro w'
        go_simp
        with_reducible rfl
      rotate_left
      · simp only [Act.put, List.setIfInBounds_toArray, List.set_cons_zero, List.set_cons_succ, i64_w, i32_w]
        rfl
      refine pure_ (i := 4) (N := some 14) (v := ?_) (a' := ?_) #[true, true, true, false, true, false, false, false, false, false] rfl rfl (by kernel_rfl) (fun _ _ _ h => h) (Or.inl ⟨by rfl, ?_⟩) ?_ ?_
      rotate_left
      · intro w'
        go_simp
        with_reducible rfl
      rotate_left
      · simp only [Act.put, List.setIfInBounds_toArray, List.set_cons_zero, List.set_cons_succ, i64_w, i32_w]
        rfl
      refine pure_ (i := 5) (N := some 15) (v := ?_) (a' := ?_) #[true, true, true, false, true, true, false, false, false, false] rfl rfl (by kernel_rfl) (fun _ _ _ h => h) (Or.inl ⟨by rfl, ?_⟩) ?_ ?_
      rotate_left
      · intro w'
        go_simp
        with_reducible rfl
      rotate_left
      · simp only [Act.put, List.setIfInBounds_toArray, List.set_cons_zero, List.set_cons_succ, i64_w, i32_w]
        rfl
      refine pure_ (i := 6) (N := some 16) (v := ?_) (a' := ?_) #[true, true, true, false, true, true, true, false, false, false] rfl rfl (by kernel_rfl) (fun _ _ _ h => h) (Or.inl ⟨by rfl, ?_⟩) ?_ ?_
      rotate_left
      · intro w'
        go_simp
        with_reducible rfl
      rotate_left
      · simp only [Act.put, List.setIfInBounds_toArray, List.set_cons_zero, List.set_cons_succ, i64_w, i32_w]
        rfl
      refine take_ (i := 3) (N := some 13) (v := ?_) (a' := ?_) #[true, true, true, true, true, true, true, false, false, false] rfl rfl (by kernel_rfl) (fun _ _ _ h => h) (Or.inl ⟨by rfl, ?_⟩) hHeld ?_ ?_
      rotate_left
      · rintro w' ⟨s0, s1⟩
        go_simp
        with_reducible rfl
      rotate_left
      · simp only [Act.put, List.setIfInBounds_toArray, List.set_cons_zero, List.set_cons_succ, i64_w, i32_w]
        rfl
      refine take_ (i := 7) (N := some 17) (v := ?_) (a' := ?_) #[true, true, true, true, true, true, true, true, false, false] rfl rfl (by kernel_rfl) (fun _ _ _ h => h) (Or.inl ⟨by rfl, ?_⟩) hHeld ?_ ?_
      rotate_left
      · rintro w' ⟨s0, s1⟩
        go_simp
        with_reducible rfl
      rotate_left
      · simp only [Act.put, List.setIfInBounds_toArray, List.set_cons_zero, List.set_cons_succ, i64_w, i32_w]
        rfl
      refine pure_ (i := 8) (N := some 18) (v := ?_) (a' := ?_) #[true, true, true, true, true, true, true, true, true, false] rfl rfl (by kernel_rfl) (fun _ _ _ h => h) (Or.inl ⟨by rfl, ?_⟩) ?_ ?_
      rotate_left
      · intro w'
        go_simp
        with_reducible rfl
      rotate_left
      · simp only [Act.put, List.setIfInBounds_toArray, List.set_cons_zero, List.set_cons_succ, i64_w, i32_w]
        rfl
      refine last_ (i := 9) (N := some 19) #[true, true, true, true, true, true, true, true, true, true] rfl rfl (by kernel_rfl) (by decide) (fun K hK => ?_)
      refine goes_ Tryd.func45 (by kernel_rfl) rfl #[.pointer (some ⟨g, 0, none⟩), .int .u64 n, .int .i64 8] (by rfl) rfl rfl (by simp only [List.map_toArray, List.map_cons, List.map_nil]; rfl) ?_
      with_reducible refine (wr_putI wr.drew _ g _ n 8 n 8 rfl rfl HWd.out (by omega) (by decide) (.inr (by omega)) HLE.out).mono ?_
      rintro e w2 ⟨rfl, hw2, hm2⟩
      refine ⟨_, rfl, ?_⟩
      have HW2 := Lib.hid hw2
      have HM2 := Lib.hid hm2
      clear hw2 hm2
      refine hK.out _ _ ?_
      clear hK K
      refine norm_ (a' := ?_) ?_ ?_
      rotate_left
      · show Act.put _ (some 19) _ = _
        simp only [Act.put, List.setIfInBounds_toArray, List.set_cons_zero, List.set_cons_succ, i64_w, i32_w]
        rfl
      refine done_ (by kernel_rfl) ?_
      clear hq0 hq1
      go_wp2
      go_roundg (gk - 1)
      case measure => omega
      case rel =>
        refine ⟨i + 1, by omega, by go_num, ?_, ?_⟩
        · show Wr _ _ _ _
          rw [HN.out, ← List.append_assoc]
          exact HW2.out.mono (fun k hk => hk.elim id (fun h => .inr (Nat.le_trans HMd.out.size h)))
        · exact HMd.out.trans HM2.out (fun k hk h => h.elim id (fun h => absurd h (Nat.not_le.2 hk)))
    · go_wp2
      go_end0
      have h2 := HWr.out
      rw [List.take_of_length_le (by omega)] at h2
      exact ⟨rfl, h2, HM.out⟩
end Go.Proofs.YtmllgglcdlcdhaaDoor
end
