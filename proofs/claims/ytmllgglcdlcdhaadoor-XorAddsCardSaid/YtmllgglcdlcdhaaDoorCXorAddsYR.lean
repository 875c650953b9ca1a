import Derived.Test.YtmllgglcdlcdhaaDoorCXorAddsPXLx1
import Derived.Test.YtmllgglcdlcdhaaDoorCXorAddsPXLx2
import Derived.Test.YtmllgglcdlcdhaaDoorCXorAddsYA
import Derived.Test.YtmllgglcdlcdhaaDoorCXorAddsY8
import Derived.Test.YtmllgglcdlcdhaaDoorCXorAddsYI
import Derived.Test.YtmllgglcdlcdhaaDoorCXorAddsQ
import Derived.Lib.LaidU8
import Derived.LaidMore
import Derived.Test.YtmllgglcdlcdhaaDoorRows
namespace Go.Proofs.YtmllgglcdlcdhaaDoor.Bq
end Go.Proofs.YtmllgglcdlcdhaaDoor.Bq
section
namespace Go.Proofs.YtmllgglcdlcdhaaDoor.PXL
open Go.RowKit Go.Proofs.YtmllgglcdlcdhaaDoorW.PrintWords Go.Proofs.YtmllgglcdlcdhaaDoorW.PrintLast Go.Proofs.YtmllgglcdlcdhaaDoorW.PrintMore
attribute [local go_sem] max2_int min2_int max_two min_two max_three min_three max_four min_four
set_option linter.unusedVariables false
set_option linter.unusedSimpArgs false
end Go.Proofs.YtmllgglcdlcdhaaDoor.PXL
end
section
namespace Go.Proofs.YtmllgglcdlcdhaaDoor.Pu
open Go Go.RowKit Go.Proofs.YtmllgglcdlcdhaaDoor Go.Proofs.YtmllgglcdlcdhaaDoor.PXL Go.Proofs.YtmllgglcdlcdhaaDoorW.PrintWords Go.Proofs.YtmllgglcdlcdhaaDoorW.PrintLast Go.Proofs.YtmllgglcdlcdhaaDoorW.PrintMore Bq Xs
set_option linter.unusedVariables false
set_option linter.unusedSimpArgs false
theorem put_ok (l : List S39) (h : l.all smpOkB = true) (hl : l.length ≤ 50000) : xor_Put.f l = some (packL (smps l), 0) := by
  unfold xor_Put.f
  rw [if_neg (by omega), if_pos hl, if_pos h]
theorem bytB (b : List Int) (hb : Byts b) : b.all (fun x => decide (0 ≤ x ∧ x < 256)) = true := List.all_eq_true.2 fun x hx => decide_eq_true (hb x hx)
theorem get_ok (b : List Int) (hb : Byts b) (hl : b.length ≤ 10000) : xor_Get.f b = some (getS b) := by
  unfold xor_Get.f
  rw [if_pos hl, if_pos (bytB b hb)]
theorem eq_ok (a b : List Int) (ha : a.length ≤ 1000000000) (hb : b.length ≤ 1000000000) : manometerref01_Equal.f a b = some (decide (a = b)) := by
  unfold manometerref01_Equal.f
  rw [if_pos (by omega), if_pos (by omega)]
theorem pack_len (L : List (Int × Nat)) (h : ∀ x ∈ L, SmpOk x) : (packL L).length ≤ 3 + 20 * L.length := by
  have h1 := all_len L st0 st0_ok h
  unfold packL packB packI
  rw [ints_length, pack_length, List.length_append, nb_length]
  omega
theorem byts_pack (L : List (Int × Nat)) : Byts (packL L) := byts_packI _
theorem pack_nb16 : pack (nb 0 16) = [0, 0] := by
  rw [show nb 0 16 = nb 0 8 ++ nb 0 8 from rfl, pack_append 1 _ _ (by rw [nb_length]), pack_short (nb 0 8) (by decide) (by decide)]
  rfl
theorem pack_two : packL [] = [0, 0] := by
  have h : packB [] = nb 0 16 := by unfold packB allB; rw [List.append_nil]; rfl
  unfold packL packI
  rw [h, pack_nb16]
  rfl
theorem uv0 : uv 0 = [0] := uv_small 0 (by decide)
theorem pack_one : packL [(0, 4607182418800017408)] = [0, 1, 0, 63, 240, 0, 0, 0, 0, 0, 0] := by
  have h : packB [(0, 4607182418800017408)] = nb 0 8 ++ (nb 1 8 ++ (nb 0 8 ++ (nb 63 8 ++ (nb 240 8 ++ (nb 0 8 ++ (nb 0 8 ++ (nb 0 8 ++ (nb 0 8 ++ (nb 0 8 ++ nb 0 8))))))))) := by
    have h1 : addB st0 0 4607182418800017408 = (bytesB (ints (uv (zigI 0).toNat)) ++ nb 4607182418800017408 64, ⟨1, 0, 4607182418800017408, 0, st0.w⟩) := rfl
    unfold packB allB
    simp only [h1]
    rw [show (zigI 0).toNat = 0 from rfl, uv0]
    show nb 1 16 ++ ((nb 0 8 ++ [] ++ nb 4607182418800017408 64) ++ []) = _
    decide +kernel
  unfold packL packI
  rw [h]
  have e : ∀ (n : Nat) (t : List Bool), pack (nb n 8 ++ t) = byte8 (nb n 8) :: pack t := fun n t => by
    rw [pack_append 1 _ _ (by rw [nb_length]), pack_short (nb n 8) (fun h => by have := congrArg List.length h; rw [nb_length] at this; cases this) (by rw [nb_length]; decide)]
    rfl
  have e0 : pack (nb 0 8) = [byte8 (nb 0 8)] := pack_short (nb 0 8) (by decide) (by decide)
  rw [e, e, e, e, e, e, e, e, e, e, e0]
  decide +kernel
theorem live08 : manometerlaw08_live.f = some true := by
  have o1 : ([⟨0, 4607182418800017408⟩] : List S39).all smpOkB = true := by decide
  have hs : smps [(⟨0, 4607182418800017408⟩ : S39)] = [(0, 4607182418800017408)] := rfl
  have hok : ∀ x ∈ [((0 : Int), (4607182418800017408 : Nat))], SmpOk x := fun x hx => by rw [List.mem_singleton.1 hx]; exact ⟨by decide, by decide⟩
  have hg : getL (packL [(0, 4607182418800017408)]) = .ok [(0, 4607182418800017408)] := get_back _ (by decide) hok
  have hgs : getS (packL [(0, 4607182418800017408)]) = (smpB [(0, 4607182418800017408)], 0) := by unfold getS; rw [hg]
  unfold manometerlaw08_live.f
  rw [put_ok [] rfl (by decide), put_ok _ o1 (by decide), hs]
  simp only [Option.bind_some]
  rw [get_ok _ (byts_pack _) (by rw [pack_one]; decide), hgs, show smps [] = [] from rfl, pack_two, pack_one, eq_ok _ _ (by decide) (by decide), eq_ok _ _ (by decide) (by decide)]
  rfl
end Go.Proofs.YtmllgglcdlcdhaaDoor.Pu
end
section
namespace Go.Proofs.YtmllgglcdlcdhaaDoor.PXL
open Go Go.RowKit Go.Proofs.YtmllgglcdlcdhaaDoor Go.Proofs.YtmllgglcdlcdhaaDoorW.PrintWords Go.Proofs.YtmllgglcdlcdhaaDoorW.PrintMore Go.Proofs.YtmllgglcdlcdhaaDoorW.PrintLast Bq Xs Go.Proofs.YtmllgglcdlcdhaaDoor.Pu
set_option linter.unusedVariables false
set_option maxRecDepth 100000
set_option linter.unusedSimpArgs false
attribute [local go_sem ↓] Go.wp_at_zero Go.wp_at_succ
theorem is_made (w : World) (g : Nat) (b : Bool) (v : Value) (hg : w.heap[g]? = some (.cells #[.bool b, v] 54 (0, 0))) :
    Calls Tryd.prog 42 #[.pointer (some ⟨g, 0, none⟩)] w fun e w' => e = .returned (.bool b) ∧ w = w' := by
  have h0 : w.cell? ⟨g, 0, none⟩ = some (.bool b) := (blk_cell hg 0).trans rfl
  go_enter Tryd.func42, Tryd.ntmps42
  go_wp2
  go_ret
  exact ⟨rfl, rfl⟩
def NotMade (w0 : World) (p : Option Addr) : Prop := ∀ W, Below w0.heap.size w0 W → Calls Tryd.prog 42 #[.pointer p] W fun e w' => e = .returned (.bool false) ∧ W = w'
theorem NotMade.step {w0 w1 : World} {p : Option Addr} (h : NotMade w0 p) (hB : Below w0.heap.size w0 w1) : NotMade w1 p := fun W hW => h W (hB.trans (below_lower hW hB.size))
end Go.Proofs.YtmllgglcdlcdhaaDoor.PXL
end
section
namespace Go.Proofs.YtmllgglcdlcdhaaDoor.PXL
open Go Go.RowKit Go.Proofs.YtmllgglcdlcdhaaDoor Go.Proofs.YtmllgglcdlcdhaaDoorW.PrintWords Go.Proofs.YtmllgglcdlcdhaaDoorW.PrintMore Go.Proofs.YtmllgglcdlcdhaaDoorW.PrintLast Bq Xs Go.Proofs.YtmllgglcdlcdhaaDoor.Pu
set_option linter.unusedVariables false
set_option maxRecDepth 100000
set_option linter.unusedSimpArgs false
attribute [local go_sem ↓] Go.wp_at_zero Go.wp_at_succ
set_option maxHeartbeats 2000000 in
theorem new_calls (w : World) :
    Calls Tryd.prog 21 #[] w fun e w' => ∃ g, e = .returned (.pointer (some ⟨g, 0, none⟩)) ∧ w'.heap[g]? = some (.cells #[.bool true, .slice none 0 0] 54 (0, 0)) ∧ w.heap.size ≤ g ∧ Below w.heap.size w w' := by
  go_enter Tryd.func21, Tryd.ntmps21
  go_wp2_with fail
  go_ret
  exact ⟨w.heap.size, rfl, blk_new w _, Nat.le_refl _, below_alloc (Below.refl _ _) _⟩
set_option maxHeartbeats 2000000 in
theorem count_made (w : World) (g n c : Nat) (A : Option Addr) (hg : w.heap[g]? = some (.cells #[.bool true, .slice A n c] 54 (0, 0))) :
    Calls Tryd.prog 26 #[.pointer (some ⟨g, 0, none⟩)] w fun e w' => e = .returned (.int .i64 (n : Int)) ∧ w' = w := by
  have HI := Lib.hid (is_made w g true _ hg)
  have c1 : w.cell? ⟨g, 1, none⟩ = some (.slice A n c) := (blk_cell hg 1).trans rfl
  clear hg
  go_enter Tryd.func26, Tryd.ntmps26
  go_wp2_with (go_at_call 42; refine HI.out.mono ?_; rintro e w' ⟨rfl, rfl⟩)
  go_ret
  exact ⟨rfl, rfl⟩
set_option maxHeartbeats 4000000 in
theorem add_made (w : World) (g base : Nat) (ok : Nat → Prop) (v0 : Value) (l : List S39) (hg : w.heap[g]? = some (.cells #[.bool true, v0] 54 (0, 0))) (hR : Kd.R k39 39 w base ok v0 l) (hfr0 : ∀ k, w.heap.size ≤ k → ok k) (hbs0 : base ≤ w.heap.size) (t v : Int) (hl : l.length < 65535) :
    Calls Tryd.prog 22 #[.pointer (some ⟨g, 0, none⟩), .agg #[.int .i64 t, .int .u64 v]] w fun e w' => e = .returned (.int .i64 0) ∧ ∃ v1, w'.heap[g]? = some (.cells #[.bool true, v1] 54 (0, 0)) ∧ Kd.R k39 39 w' base ok v1 (l ++ [⟨t, v⟩]) ∧ Mod (fun k => ok k ∨ k = g) w w' := by
  obtain ⟨W1, hW1⟩ : ∃ W1, W1 = w.alloc (.cells #[.int .i64 t, .int .u64 v] 39) := ⟨_, rfl⟩
  obtain ⟨bs, hbs⟩ : ∃ bs, bs = w.heap.size := ⟨_, rfl⟩
  have hB : Below w.heap.size w W1 := by rw [hW1]; exact below_alloc (Below.refl _ _) _
  have hx : W1.heap[bs]? = some (.cells #[.int .i64 t, .int .u64 v] 39 (0, 0)) := by rw [hW1, hbs]; exact heap_alloc_new w _
  have hm1 : Mod (fun k => ok k ∨ k = g) w W1 := Mod.of_below hB _
  have hg1 := (hB.block g (blk_lt hg)).trans hg
  have he1 : some g ≠ v0.ownBlock := Kd.R_ne hR hg (by decide)
  have he2 : some bs ≠ v0.ownBlock := fun h => by have := (Kd.R_bound hR).1 bs h.symm; omega
  obtain ⟨A, c, hv0⟩ := Kd.R_slice hR
  obtain ⟨n, hn⟩ : ∃ n, n = l.length := ⟨_, rfl⟩
  rw [← hn] at hv0 hl
  subst hv0
  have HR : Hid _ := Lib.hid (Kd.R_below hR hB)
  have hfr : ∀ k, W1.drew.heap.size ≤ k → ok k := fun k hk => hfr0 k (Nat.le_trans hB.size hk)
  have hbase : base ≤ W1.drew.heap.size := Nat.le_trans hbs0 hB.size
  have HI := Lib.hid (is_made W1 g true _ hg1)
  have c1 : W1.cell? ⟨g, 1, none⟩ = some (.slice A n c) := (blk_cell hg1 1).trans rfl
  have c2 : W1.cell? ⟨bs, 0, none⟩ = some (.int .i64 t) := (blk_cell hx 0).trans rfl
  have c3 : W1.cell? ⟨bs, 1, none⟩ = some (.int .u64 v) := (blk_cell hx 1).trans rfl
  have hf := blk_frozen hg1 1
  have HW := Lib.hid (And.intro hW1 hbs)
  have HM := Lib.hid hm1
  have HG := Lib.hid hg1
  have HX := Lib.hid hx
  have HE := Lib.hid (And.intro he1 he2)
  have HN := Lib.hid hn
  have hn1 : decide ((n : Int) ≥ 65535) = false := decide_eq_false (by omega)
  have HL := Lib.hid hl
  clear hW1 hbs hB hg hg1 hx hm1 he1 he2 hR hn hl hfr0 hbs0
  go_enter Tryd.func22, Tryd.ntmps22
  go_upto_region 1 with fail
  rw [← HW.out.1, ← HW.out.2]
  go_upto_region 5 with (go_at_call 42; refine HI.out.mono ?_; rintro e w' ⟨rfl, rfl⟩)
  refine start_ (n := 11) (S := fun w' => w'.cell? ⟨g, 1, none⟩ = some (.slice A n c) ∧ w'.cell? ⟨bs, 0, none⟩ = some (.int .i64 t) ∧ w'.cell? ⟨bs, 1, none⟩ = some (.int .u64 v)) (ds := [10]) #[false, false, false, false, false, false, false, false, false, false, false] (by kernel_rfl) rfl rfl ⟨c1, c2, c3⟩ (fun hHeld => ?_)
  refine pure_ (i := 0) (N := some 14) (v := ?_) (a' := ?_) #[true, false, false, false, false, false, false, false, false, false, false] rfl rfl (by kernel_rfl) (fun _ _ _ h => h) (Or.inl ⟨by rfl, ?_⟩) ?_ ?_
  rotate_left
  · intro w'
    go_simp
    with_reducible rfl
  rotate_left
  · simp only [Act.put, List.setIfInBounds_toArray, List.set_cons_zero, List.set_cons_succ, i64_w, i32_w]
    rfl
  refine pure_ (i := 1) (N := some 15) (v := ?_) (a' := ?_) #[true, true, false, false, false, false, false, false, false, false, false] rfl rfl (by kernel_rfl) (fun _ _ _ h => h) (Or.inl ⟨by rfl, ?_⟩) ?_ ?_
  rotate_left
  · intro w'
    go_simp
    with_reducible rfl
  rotate_left
  · simp only [Act.put, List.setIfInBounds_toArray, List.set_cons_zero, List.set_cons_succ, i64_w, i32_w]
    rfl
  refine pure_ (i := 2) (N := some 16) (v := ?_) (a' := ?_) #[true, true, true, false, false, false, false, false, false, false, false] rfl rfl (by kernel_rfl) (fun _ _ _ h => h) (Or.inl ⟨by rfl, ?_⟩) ?_ ?_
  rotate_left
  · intro w'
    go_simp
    with_reducible rfl
  rotate_left
  · simp only [Act.put, List.setIfInBounds_toArray, List.set_cons_zero, List.set_cons_succ, i64_w, i32_w]
    rfl
  refine pure_ (i := 3) (N := some 17) (v := ?_) (a' := ?_) #[true, true, true, true, false, false, false, false, false, false, false] rfl rfl (by kernel_rfl) (fun _ _ _ h => h) (Or.inl ⟨by rfl, ?_⟩) ?_ ?_
  rotate_left
  · intro w'
    go_simp
    with_reducible rfl
  rotate_left
  · simp only [Act.put, List.setIfInBounds_toArray, List.set_cons_zero, List.set_cons_succ, i64_w, i32_w]
    rfl
  refine take_ (i := 4) (N := some 18) (v := ?_) (a' := ?_) #[true, true, true, true, true, false, false, false, false, false, false] rfl rfl (by kernel_rfl) (fun _ _ _ h => h) (Or.inl ⟨by rfl, ?_⟩) hHeld ?_ ?_
  rotate_left
  · rintro w' ⟨s0, s1, s2⟩
    go_simp
    with_reducible rfl
  rotate_left
  · simp only [Act.put, List.setIfInBounds_toArray, List.set_cons_zero, List.set_cons_succ, i64_w, i32_w]
    rfl
  refine take_ (i := 5) (N := some 19) (v := ?_) (a' := ?_) #[true, true, true, true, true, true, false, false, false, false, false] rfl rfl (by kernel_rfl) (fun _ _ _ h => h) (Or.inl ⟨by rfl, ?_⟩) hHeld ?_ ?_
  rotate_left
  · rintro w' ⟨s0, s1, s2⟩
    go_simp
    with_reducible rfl
  rotate_left
  · simp only [Act.put, List.setIfInBounds_toArray, List.set_cons_zero, List.set_cons_succ, i64_w, i32_w]
    rfl
  refine one_ (i := 6) (N := some 20) #[true, true, true, true, true, true, true, false, false, false, false] rfl rfl (by kernel_rfl) (by decide) (fun K hK => ?_)
  refine value_ (w1 := ?_) (v := ?_) (by rfl) rfl ?_ ?_
  rotate_left 2
  · go_simp
    constructor
    · rfl
    · rfl
  refine hK.out _ _ ⟨(World.cell?_alloc_lt _ _ _ (blk_lt HG.out)).trans c1, (World.cell?_alloc_lt _ _ _ (blk_lt HX.out)).trans c2, (World.cell?_alloc_lt _ _ _ (blk_lt HX.out)).trans c3⟩ (fun hHeld => ?_)
  clear hK K
  refine norm_ (a' := ?_) ?_ ?_
  rotate_left
  · show Act.put _ (some 20) _ = _
    simp only [Act.put, List.setIfInBounds_toArray, List.set_cons_zero, List.set_cons_succ, i64_w, i32_w]
    rfl
  refine one_ (i := 7) (N := some 21) #[true, true, true, true, true, true, true, true, false, false, false] rfl rfl (by kernel_rfl) (by decide) (fun K hK => ?_)
  refine Kd.R_append_step k39 (w0 := W1.drew) (W := W1.drew) base (by rfl) (.tmp 18) (.tmp 20) 22 39 (.agg #[.int .i64 0, .int .u64 0]) 16 (by rfl) Tryd.underlying22 info_smp rfl (by decide) (by decide) _ l (⟨t, v⟩ : S39) [.int .i64 t, .int .u64 v] ok (fun _ => False) (by rfl) (by rfl) (k39_mkM _ _ _ _) (fun _ h => h.elim) hfr (Kd.R_drew HR.out) (Below.refl _ _) hbase (by have := HN.out; have := HL.out; omega) ?_
  intro v1 w1 hR1 _ hg1 _
  obtain ⟨A1, k1, rfl⟩ := Kd.R_slice hR1
  have HR1 := Lib.hid hR1
  have HG1 := Lib.hid hg1
  clear hR1 hg1
  have hgb := blk_grown (blk_drew HG.out) HG1.out HE.out.1
  have hxb := blk_grown (blk_drew HX.out) HG1.out HE.out.2
  have k2 : w1.cell? ⟨g, 1, none⟩ = some (.slice A n c) := (blk_cell hgb 1).trans rfl
  have k3 : w1.cell? ⟨bs, 0, none⟩ = some (.int .i64 t) := (blk_cell hxb 0).trans rfl
  have k4 : w1.cell? ⟨bs, 1, none⟩ = some (.int .u64 v) := (blk_cell hxb 1).trans rfl
  have kf := blk_frozen hgb 1
  refine hK.out _ _ ⟨k2, k3, k4⟩ (fun hHeld => ?_)
  clear hK K
  refine norm_ (a' := ?_) ?_ ?_
  rotate_left
  · show Act.put _ (some 21) _ = _
    simp only [Act.put, List.setIfInBounds_toArray, List.set_cons_zero, List.set_cons_succ, i64_w, i32_w]
    rfl
  refine pure_ (i := 8) (N := some 22) (v := ?_) (a' := ?_) #[true, true, true, true, true, true, true, true, true, false, false] rfl rfl (by kernel_rfl) (fun _ _ _ h => h) (Or.inl ⟨by rfl, ?_⟩) ?_ ?_
  rotate_left
  · intro w'
    go_simp
    with_reducible rfl
  rotate_left
  · simp only [Act.put, List.setIfInBounds_toArray, List.set_cons_zero, List.set_cons_succ, i64_w, i32_w]
    rfl
  refine pure_ (i := 9) (N := some 23) (v := ?_) (a' := ?_) #[true, true, true, true, true, true, true, true, true, true, false] rfl rfl (by kernel_rfl) (fun _ _ _ h => h) (Or.inl ⟨by rfl, ?_⟩) ?_ ?_
  rotate_left
  · intro w'
    go_simp
    with_reducible rfl
  rotate_left
  · simp only [Act.put, List.setIfInBounds_toArray, List.set_cons_zero, List.set_cons_succ, i64_w, i32_w]
    rfl
  refine last_ (i := 10) (N := none) #[true, true, true, true, true, true, true, true, true, true, true] rfl rfl (by kernel_rfl) (by decide) (fun K hK => ?_)
  refine skip_ (w1 := ?_) (by rfl) rfl ?_ ?_
  rotate_left
  · go_simp
    rfl
  refine hK.out _ _ ?_
  clear hK K
  refine done_ (by kernel_rfl) ?_
  go_wp2_with fail
  go_ret
  have h1 := HR1.out
  rw [List.length_append, List.length_singleton] at h1
  exact ⟨rfl, _, blk_set hgb 1 _, Kd.R_set h1 hgb (by decide) 1 _, ((HM.out.drew).grown HG1.out (fun k hk => .inl (.inl (HR.out.1 k hk)))).setCell (.inl (.inr rfl)) _⟩
set_option maxHeartbeats 2000000 in
theorem bytes_made (w : World) (g c : Nat) (A : Option Addr) (l : List S39) (hg : w.heap[g]? = some (.cells #[.bool true, .slice A l.length c] 54 (0, 0))) (hC : Kd.C k39 w A l.length l) (hb : ∀ x ∈ l, 0 ≤ x.f1) (hL : ∀ x ∈ smps l, SmpOk x) (hl : l.length ≤ 50000) (hT : Tab w) :
    Calls Tryd.prog 23 #[.pointer (some ⟨g, 0, none⟩)] w fun e w' => ∃ v, e = .returned v ∧ (Kd.int .u8).R 5 w' w.heap.size (fun _ => True) v (packL (smps l)) ∧ Below w.heap.size w w' := by
  have HI := Lib.hid (is_made w g true _ hg)
  have HP := pack_calls w A c (smps l) (smpRow_of hC hb) hL (by rw [smps_length]; exact hl) hT
  rw [smps_length] at HP
  obtain ⟨n, hn⟩ : ∃ n, n = l.length := ⟨_, rfl⟩
  rw [← hn] at HP hg
  have HP := Lib.hid HP
  have c1 : w.cell? ⟨g, 1, none⟩ = some (.slice A n c) := (blk_cell hg 1).trans rfl
  clear hg hC hb hL hl hT hn
  go_enter Tryd.func23, Tryd.ntmps23
  go_wp2_with (go_at_call 42; refine HI.out.mono ?_; rintro e w' ⟨rfl, rfl⟩)
  go_loud (refine HP.out.mono ?_)
  rintro e w1 ⟨v1, rfl, hR1, hB1⟩
  have HR1 := Lib.hid hR1
  have HB1 := Lib.hid hB1
  clear hR1 hB1
  go_wp2_with fail
  go_ret
  exact ⟨v1, rfl, HR1.out, HB1.out⟩
set_option maxHeartbeats 2000000 in
theorem last_made (w : World) (g c : Nat) (A : Option Addr) (L : List (Int × Nat)) (hg : w.heap[g]? = some (.cells #[.bool true, .slice A L.length c] 54 (0, 0))) (hC : SmpRow w A L) (hl : 0 < L.length) (hlen : L.length ≤ 50000) :
    Calls Tryd.prog 27 #[.pointer (some ⟨g, 0, none⟩)] w fun e w' => e = .returned (.tuple #[.agg #[.int .i64 (L.getD (L.length - 1) (0, 0)).1, .int .u64 ((L.getD (L.length - 1) (0, 0)).2 : Nat)], .bool true]) ∧ Below w.heap.size w w' := by
  obtain ⟨W1, hW1⟩ : ∃ W1, W1 = w.alloc (.cells #[.int .i64 0, .int .u64 0] 39) := ⟨_, rfl⟩
  obtain ⟨b, hb⟩ : ∃ b, b = w.heap.size := ⟨_, rfl⟩
  have hB : Below w.heap.size w W1 := by rw [hW1]; exact below_alloc (Below.refl _ _) _
  have hx : W1.heap[b]? = some (.cells #[.int .i64 0, .int .u64 0] 39 (0, 0)) := by rw [hW1, hb]; exact heap_alloc_new w _
  have hg1 := (hB.block g (blk_lt hg)).trans hg
  have HI := Lib.hid (is_made W1 g true _ hg1)
  obtain ⟨ad, hA, r0, r1⟩ := (hC.below hB) (L.length - 1) (by omega)
  obtain ⟨n, hn⟩ : ∃ n, n = L.length := ⟨_, rfl⟩
  subst hA
  rw [← hn] at hg1 r0 r1 hl
  obtain ⟨t, ht⟩ : ∃ t, t = (L.getD (L.length - 1) (0, 0)).1 := ⟨_, rfl⟩
  obtain ⟨v, hv⟩ : ∃ v, v = (L.getD (L.length - 1) (0, 0)).2 := ⟨_, rfl⟩
  rw [hn, ← ht, ← hn] at r0
  rw [hn, ← hv, ← hn] at r1
  rw [← ht, ← hv]
  have HW := Lib.hid (And.intro hW1 hb)
  have HB := Lib.hid hB
  have HX := Lib.hid hx
  have c1 : W1.cell? ⟨g, 1, none⟩ = some (.slice (some ad) n c) := (blk_cell hg1 1).trans rfl
  have z0 : W1.cell? ⟨b, 0, none⟩ = some (.int .i64 0) := (blk_cell hx 0).trans rfl
  have z1 : W1.cell? ⟨b, 1, none⟩ = some (.int .u64 0) := (blk_cell hx 1).trans rfl
  have f0 := blk_frozen hx 0
  have f1 := blk_frozen hx 1
  have hn0 : ((n : Int) == 0) = false := beq_false_of_ne (by omega)
  obtain ⟨j, hj⟩ : ∃ j, j = n - 1 := ⟨_, rfl⟩
  rw [← hj] at r0 r1
  have hnb : n ≤ 50000 := hn ▸ hlen
  have hij : IntKind.i64.wrap ((n : Int) - 1) = (j : Int) := by rw [IntWalk.i64_in _ (by omega)]; omega
  have hijw : IntKind.i64.wrap (j : Int) = (j : Int) := IntWalk.i64_in _ (by omega)
  have hij2 : ((n : Int) - 1) = (j : Int) := by omega
  have hjm : j < n := by omega
  have p0 : W1.cell? (ad.add (j * 2)) = some (.int .i64 t) := r0
  have p1 : W1.cell? ⟨(ad.add (j * 2)).block, (ad.add (j * 2)).off + 1, none⟩ = some (.int .u64 (v : Nat)) := by rw [add_next_cell]; exact r1
  have HL := Lib.hid hl
  clear hW1 hb hB hx hg hg1 hC hl hn ht hv hj hnb hlen r0 r1
  go_enter Tryd.func27, Tryd.ntmps27
  go_upto_region 1 with fail
  rw [← HW.out.1, ← HW.out.2]
  go_upto_region 3 with (go_at_call 42; refine HI.out.mono ?_; rintro e w' ⟨rfl, rfl⟩)
  refine start_ (n := 14) (S := fun w' => w'.cell? ⟨g, 1, none⟩ = some (.slice (some ad) n c) ∧ w'.cell? (ad.add (j * 2)) = some (.int .i64 t) ∧ w'.cell? ⟨(ad.add (j * 2)).block, (ad.add (j * 2)).off + 1, none⟩ = some (.int .u64 (v : Nat))) (ds := [12]) #[false, false, false, false, false, false, false, false, false, false, false, false, false, false] (by kernel_rfl) rfl rfl ⟨c1, p0, p1⟩ (fun hHeld => ?_)
  refine pure_ (i := 0) (N := some 16) (v := ?_) (a' := ?_) #[true, false, false, false, false, false, false, false, false, false, false, false, false, false] rfl rfl (by kernel_rfl) (fun _ _ _ h => h) (Or.inl ⟨by rfl, ?_⟩) ?_ ?_
  rotate_left
  · intro w'
    go_simp
    with_reducible rfl
  rotate_left
  · simp only [Act.put, List.setIfInBounds_toArray, List.set_cons_zero, List.set_cons_succ, i64_w, i32_w]
    rfl
  refine pure_ (i := 1) (N := some 17) (v := ?_) (a' := ?_) #[true, true, false, false, false, false, false, false, false, false, false, false, false, false] rfl rfl (by kernel_rfl) (fun _ _ _ h => h) (Or.inl ⟨by rfl, ?_⟩) ?_ ?_
  rotate_left
  · intro w'
    go_simp
    with_reducible rfl
  rotate_left
  · simp only [Act.put, List.setIfInBounds_toArray, List.set_cons_zero, List.set_cons_succ, i64_w, i32_w]
    rfl
  refine pure_ (i := 2) (N := some 18) (v := ?_) (a' := ?_) #[true, true, true, false, false, false, false, false, false, false, false, false, false, false] rfl rfl (by kernel_rfl) (fun _ _ _ h => h) (Or.inl ⟨by rfl, ?_⟩) ?_ ?_
  rotate_left
  · intro w'
    go_simp
    with_reducible rfl
  rotate_left
  · simp only [Act.put, List.setIfInBounds_toArray, List.set_cons_zero, List.set_cons_succ, i64_w, i32_w]
    rfl
  refine take_ (i := 3) (N := some 19) (v := ?_) (a' := ?_) #[true, true, true, true, false, false, false, false, false, false, false, false, false, false] rfl rfl (by kernel_rfl) (fun _ _ _ h => h) (Or.inl ⟨by rfl, ?_⟩) hHeld ?_ ?_
  rotate_left
  · rintro w' ⟨s0, s1, s2⟩
    go_simp
    with_reducible rfl
  rotate_left
  · simp only [Act.put, List.setIfInBounds_toArray, List.set_cons_zero, List.set_cons_succ, i64_w, i32_w]
    rfl
  refine pure_ (i := 4) (N := some 20) (v := ?_) (a' := ?_) #[true, true, true, true, true, false, false, false, false, false, false, false, false, false] rfl rfl (by kernel_rfl) (fun _ _ _ h => h) (Or.inl ⟨by rfl, ?_⟩) ?_ ?_
  rotate_left
  · intro w'
    go_simp
    with_reducible rfl
  rotate_left
  · simp only [Act.put, List.setIfInBounds_toArray, List.set_cons_zero, List.set_cons_succ, i64_w, i32_w]
    rfl
  refine pure_ (i := 5) (N := some 21) (v := ?_) (a' := ?_) #[true, true, true, true, true, true, false, false, false, false, false, false, false, false] rfl rfl (by kernel_rfl) (fun _ _ _ h => h) (Or.inl ⟨by rfl, ?_⟩) ?_ ?_
  rotate_left
  · intro w'
    go_simp
    with_reducible rfl
  rotate_left
  · simp only [Act.put, List.setIfInBounds_toArray, List.set_cons_zero, List.set_cons_succ, i64_w, i32_w]
    rfl
  refine pure_ (i := 6) (N := some 22) (v := ?_) (a' := ?_) #[true, true, true, true, true, true, true, false, false, false, false, false, false, false] rfl rfl (by kernel_rfl) (fun _ _ _ h => h) (Or.inl ⟨by rfl, ?_⟩) ?_ ?_
  rotate_left
  · intro w'
    go_simp
    with_reducible rfl
  rotate_left
  · simp only [Act.put, List.setIfInBounds_toArray, List.set_cons_zero, List.set_cons_succ, i64_w, i32_w]
    rfl
  refine take_ (i := 7) (N := some 23) (v := ?_) (a' := ?_) #[true, true, true, true, true, true, true, true, false, false, false, false, false, false] rfl rfl (by kernel_rfl) (fun _ _ _ h => h) (Or.inl ⟨by rfl, ?_⟩) hHeld ?_ ?_
  rotate_left
  · rintro w' ⟨s0, s1, s2⟩
    go_simp
    with_reducible rfl
  rotate_left
  · simp only [Act.put, List.setIfInBounds_toArray, List.set_cons_zero, List.set_cons_succ, i64_w, i32_w]
    rfl
  refine pure_ (i := 8) (N := some 24) (v := ?_) (a' := ?_) #[true, true, true, true, true, true, true, true, true, false, false, false, false, false] rfl rfl (by kernel_rfl) (fun _ _ _ h => h) (Or.inl ⟨by rfl, ?_⟩) ?_ ?_
  rotate_left
  · intro w'
    go_simp
    with_reducible rfl
  rotate_left
  · simp only [Act.put, List.setIfInBounds_toArray, List.set_cons_zero, List.set_cons_succ, i64_w, i32_w]
    rfl
  refine pure_ (i := 9) (N := some 25) (v := ?_) (a' := ?_) #[true, true, true, true, true, true, true, true, true, true, false, false, false, false] rfl rfl (by kernel_rfl) (fun _ _ _ h => h) (Or.inl ⟨by rfl, ?_⟩) ?_ ?_
  rotate_left
  · intro w'
    go_simp
    with_reducible rfl
  rotate_left
  · simp only [Act.put, List.setIfInBounds_toArray, List.set_cons_zero, List.set_cons_succ, i64_w, i32_w]
    rfl
  refine pure_ (i := 10) (N := some 26) (v := ?_) (a' := ?_) #[true, true, true, true, true, true, true, true, true, true, true, false, false, false] rfl rfl (by kernel_rfl) (fun _ _ _ h => h) (Or.inl ⟨by rfl, ?_⟩) ?_ ?_
  rotate_left
  · intro w'
    go_simp
    with_reducible rfl
  rotate_left
  · simp only [Act.put, List.setIfInBounds_toArray, List.set_cons_zero, List.set_cons_succ, i64_w, i32_w]
    rfl
  refine take_ (i := 11) (N := some 27) (v := ?_) (a' := ?_) #[true, true, true, true, true, true, true, true, true, true, true, true, false, false] rfl rfl (by kernel_rfl) (fun _ _ _ h => h) (Or.inl ⟨by rfl, ?_⟩) hHeld ?_ ?_
  rotate_left
  · rintro w' ⟨s0, s1, s2⟩
    go_simp
    with_reducible rfl
  rotate_left
  · simp only [Act.put, List.setIfInBounds_toArray, List.set_cons_zero, List.set_cons_succ, i64_w, i32_w]
    rfl
  refine last_ (i := 12) (N := none) #[true, true, true, true, true, true, true, true, true, true, true, true, true, false] rfl rfl (by kernel_rfl) (by decide) (fun K hK => ?_)
  refine skip_ (w1 := ?_) (by rfl) rfl ?_ ?_
  rotate_left
  · go_simp
    rfl
  refine hK.out _ _ ?_
  clear hK K
  refine pure_ (i := 13) (N := some 3) (v := ?_) (a' := ?_) #[true, true, true, true, true, true, true, true, true, true, true, true, true, true] rfl rfl (by kernel_rfl) (fun _ _ _ h => h) (Or.inl ⟨by rfl, ?_⟩) ?_ ?_
  rotate_left
  · intro w'
    go_simp
    with_reducible rfl
  rotate_left
  · simp only [Act.put, List.setIfInBounds_toArray, List.set_cons_zero, List.set_cons_succ, i64_w, i32_w]
    rfl
  refine done_ (by kernel_rfl) ?_
  clear p0 p1 hij hijw hij2 hjm
  go_wp2_with fail
  refine bodyPost_ret (results_ct rfl _ _ b 39 #[.int .i64 t, .int .u64 (v : Nat)] (0, 0) _ rfl (blk_drew (blk_put (blk_put HX.out 0 _ rfl) 1 _ rfl)) Tryd.underlying39 rfl (by kernel_rfl)) rfl ?_
  exact ⟨rfl, ((HB.out.setCell (p := ⟨b, 0, none⟩) (Nat.le_of_eq HW.out.2.symm) _).setCell (p := ⟨b, 1, none⟩) (Nat.le_of_eq HW.out.2.symm) _).drew⟩
set_option maxHeartbeats 2000000 in
theorem sclone_calls (w : World) (n c : Nat) (A : Option Addr) (l : List S39) (hC : Kd.C k39 w A n l) (hl : n ≤ 50000) :
    Calls Tryd.prog 43 #[.slice A n c] w fun e w' => ∃ v1, e = .returned v1 ∧ Kd.R k39 39 w' w.heap.size (fun _ => True) v1 l ∧ Below w.heap.size w w' := by
  have HC := Lib.hid hC
  rcases A with _ | ad
  · have h0 : n = 0 := by
      rcases Nat.eq_zero_or_pos n with h0 | h0
      · exact h0
      · obtain ⟨ad, h, _⟩ := hC.2.2 h0
        cases h
    have hl0 : l = [] := List.eq_nil_of_length_eq_zero (hC.1.trans h0)
    subst hl0
    clear hC HC hl h0
    have e0 := fun (W : World) => Lib.run_eql_slice_nil W 22 39 none n c 0 0 Tryd.underlying22
    go_enter Tryd.func43, Tryd.ntmps43
    go_wp2_with fail
    go_ret
    exact ⟨_, rfl, Kd.R_nil _ _ _ _ _, Below.refl _ _⟩
  · clear hC
    have e0 := fun (W : World) => Lib.run_eql_slice_nil W 22 39 (some ad) n c 0 0 Tryd.underlying22
    go_enter Tryd.func43, Tryd.ntmps43
    go_wp2_with (at_builtin; refine Kd.R_append_rows k39 (w0 := w) w.heap.size rfl (.tmp 5) (.tmp 6) 22 39 (.agg #[.int .i64 0, .int .u64 0]) 16 rfl Tryd.underlying22 info_smp rfl (by decide) (by decide) _ [] l (some ad) n c (fun _ => True) (fun _ => False) rfl rfl ?aO (Kd.C_alloc HC.out _) (fun x cs h => by obtain rfl := k39_open h; exact k39_mkM _ _ _ _) (fun _ h => h.elim) (fun _ _ => trivial) ((Below.refl _ _).alloc (Nat.le_refl _) _) (by rw [World.size_alloc]; omega) (by simp; omega) ?_)
    case aO => exact R_empty _ _ w _ _ (Nat.le_refl _) trivial
    intro v1 w1 hR1 hB1 _ _
    obtain ⟨A1, c1, rfl⟩ := Kd.R_slice hR1
    have HR1 := Lib.hid hR1
    have HB1 := Lib.hid hB1
    clear hR1 hB1
    go_wp2_with fail
    go_ret
    exact ⟨_, rfl, HR1.out, HB1.out⟩
set_option maxHeartbeats 2000000 in
theorem clone_made (w : World) (g c : Nat) (A : Option Addr) (l : List S39) (hg : w.heap[g]? = some (.cells #[.bool true, .slice A l.length c] 54 (0, 0))) (hC : Kd.C k39 w A l.length l) (hl : l.length ≤ 50000) :
    Calls Tryd.prog 25 #[.pointer (some ⟨g, 0, none⟩)] w fun e w' => ∃ g1 v1, e = .returned (.pointer (some ⟨g1, 0, none⟩)) ∧ w'.heap[g1]? = some (.cells #[.bool true, v1] 54 (0, 0)) ∧ Kd.R k39 39 w' w.heap.size (fun k => k < g1) v1 l ∧ w.heap.size ≤ g1 ∧ Below w.heap.size w w' := by
  have HI := Lib.hid (is_made w g true _ hg)
  obtain ⟨n, hn⟩ : ∃ n, n = l.length := ⟨_, rfl⟩
  rw [← hn] at hg hC
  have HC := Lib.hid hC
  have c1 : w.cell? ⟨g, 1, none⟩ = some (.slice A n c) := (blk_cell hg 1).trans rfl
  have HN := Lib.hid hn
  have HS := Lib.hid (sclone_calls w n c A l hC (hn ▸ hl))
  clear hg hC hn hl
  go_enter Tryd.func25, Tryd.ntmps25
  go_wp2_with (go_at_call 42; refine HI.out.mono ?_; rintro e w' ⟨rfl, rfl⟩)
  go_loud (refine HS.out.mono ?_)
  rintro e w1 ⟨v1, rfl, hR1, hB1⟩
  obtain ⟨A1, c2, hv1⟩ := Kd.R_slice hR1
  rw [← HN.out] at hv1
  subst hv1
  have HR1 := Lib.hid hR1
  have HB1 := Lib.hid hB1
  clear hR1 hB1
  go_wp2_with fail
  go_ret
  have hB2 := below_alloc (Below.refl w1.heap.size w1) (.cells #[.bool true, .slice A1 n c2] 54)
  exact ⟨w1.heap.size, .slice A1 n c2, rfl, blk_new w1 _, Kd.R_below (Kd.R_mono (Kd.R_bound HR1.out) (fun k hk => hk.2.2.1)) hB2, HB1.out.size, HB1.out.trans (below_lower hB2 HB1.out.size)⟩
end Go.Proofs.YtmllgglcdlcdhaaDoor.PXL
end
section
namespace Go.Proofs.YtmllgglcdlcdhaaDoor.PXL
open Go Go.RowKit Go.Proofs.YtmllgglcdlcdhaaDoor Go.Proofs.YtmllgglcdlcdhaaDoorW.PrintWords Go.Proofs.YtmllgglcdlcdhaaDoorW.PrintMore Go.Proofs.YtmllgglcdlcdhaaDoorW.PrintLast Bq Xs Go.Proofs.YtmllgglcdlcdhaaDoor.Pu
set_option linter.unusedVariables false
set_option maxRecDepth 100000
set_option linter.unusedSimpArgs false
attribute [local go_sem ↓] Go.wp_at_zero Go.wp_at_succ
def okA (w : World) (N0 N1 : Nat) (k : Nat) : Prop := w.heap.size ≤ k ∧ ¬ (N0 ≤ k ∧ k < N1)
structure Chk (w wr : World) (ok : Nat → Prop) (g0 : Nat) (xs : List S39) : Prop where
  bx : ∃ v, wr.heap[g0]? = some (.cells #[.bool true, v] 54 (0, 0)) ∧ Kd.R k39 39 wr w.heap.size ok v xs
  okg : ok g0
  fr : ∀ k, wr.heap.size ≤ k → ok k
  lo : ∀ k, ok k → w.heap.size ≤ k
  B : Below w.heap.size w wr
structure Cln (w wr : World) (ok : Nat → Prop) (g1 : Nat) (xs : List S39) : Prop where
  bx : ∃ v, wr.heap[g1]? = some (.cells #[.bool true, v] 54 (0, 0)) ∧ Kd.R k39 39 wr w.heap.size ok v xs
  okg : ok g1
theorem Chk.below {w wr w1 : World} {ok : Nat → Prop} {g0 : Nat} {xs : List S39} (h : Chk w wr ok g0 xs) (hB : Below wr.heap.size wr w1) : Chk w w1 ok g0 xs := by
  obtain ⟨v, hv, hR⟩ := h.bx
  exact ⟨⟨v, (hB.block g0 (blk_lt hv)).trans hv, Kd.R_below hR hB⟩, h.okg, fun k hk => h.fr k (Nat.le_trans hB.size hk), h.lo, h.B.trans (below_lower hB h.B.size)⟩
theorem Chk.weaken {w wr : World} {ok ok' : Nat → Prop} {g0 : Nat} {xs : List S39} (h : Chk w wr ok g0 xs) (h1 : ∀ k, ok k → ok' k) (h2 : ∀ k, ok' k → w.heap.size ≤ k) : Chk w wr ok' g0 xs := by
  obtain ⟨v, hv, hR⟩ := h.bx
  exact ⟨⟨v, hv, Kd.R_mono hR h1⟩, h1 _ h.okg, fun k hk => h1 k (h.fr k hk), h2, h.B⟩
theorem Chk.beside {w wr w1 : World} {ok : Nat → Prop} {g0 : Nat} {xs : List S39} (h : Chk w wr ok g0 xs) (hB : Below wr.heap.size wr w1) : Chk w w1 (fun k => ok k ∧ ¬ (wr.heap.size ≤ k ∧ k < w1.heap.size)) g0 xs := by
  obtain ⟨v, hv, hR⟩ := h.bx
  have hlt := blk_lt hv
  have hs := hB.size
  exact ⟨⟨v, (hB.block g0 hlt).trans hv, Kd.R_below (Kd.R_mono (Kd.R_bound hR) (fun k hk => ⟨hk.1, fun hn => by have := hk.2.2.1; omega⟩)) hB⟩, ⟨h.okg, fun hn => by omega⟩, fun k hk => ⟨h.fr k (by omega), fun hn => by omega⟩, fun k hk => h.lo k hk.1, h.B.trans (below_lower hB h.B.size)⟩
theorem Cln.below {w wr w1 : World} {ok : Nat → Prop} {g1 : Nat} {xs : List S39} (h : Cln w wr ok g1 xs) (hB : Below wr.heap.size wr w1) : Cln w w1 ok g1 xs := by
  obtain ⟨v, hv, hR⟩ := h.bx
  exact ⟨⟨v, (hB.block g1 (blk_lt hv)).trans hv, Kd.R_below hR hB⟩, h.okg⟩
theorem Cln.kept {w wr w1 : World} {ok okc : Nat → Prop} {g0 g1 : Nat} {xs : List S39} (h : Cln w wr okc g1 xs) (hM : Mod (fun k => ok k ∨ k = g0) wr w1) (hg : ok g0) (hd : ∀ k, okc k → ¬ ok k) : Cln w w1 okc g1 xs := by
  obtain ⟨v, hv, hR⟩ := h.bx
  have hn : ∀ k, okc k → ¬ (ok k ∨ k = g0) := by
    rintro k hk (h | rfl)
    · exact hd k hk h
    · exact hd _ hk hg
  exact ⟨⟨v, hM.blk hv (hn g1 h.okg), Kd.R_step hR (fun k ho hk => hM.block k hk (hn k ho))⟩, h.okg⟩
theorem chk_new (w w0 : World) (hB : Below w.heap.size w w0) : Calls Tryd.prog 21 #[] w0 fun e w' => ∃ g, e = .returned (.pointer (some ⟨g, 0, none⟩)) ∧ Chk w w' (okA w 0 0) g [] :=
  (new_calls w0).mono (fun e w' ⟨g, he, hg, hle, hB1⟩ => ⟨g, he, ⟨⟨_, hg, Kd.R_nil _ _ _ _ _⟩, ⟨Nat.le_trans hB.size hle, fun h => by omega⟩, fun k hk => ⟨Nat.le_trans hB.size (Nat.le_trans hB1.size hk), fun h => by omega⟩, fun k hk => hk.1, hB.trans (below_lower hB1 hB.size)⟩⟩)
theorem Chk.count {w wr : World} {ok : Nat → Prop} {g0 : Nat} {xs : List S39} (h : Chk w wr ok g0 xs) : Calls Tryd.prog 26 #[.pointer (some ⟨g0, 0, none⟩)] wr fun e w' => e = .returned (.int .i64 (xs.length : Int)) ∧ w' = wr := by
  obtain ⟨v, hv, hR⟩ := h.bx
  obtain ⟨A, c, rfl⟩ := Kd.R_slice hR
  exact count_made wr g0 _ c A hv
theorem Cln.count {w wr : World} {ok : Nat → Prop} {g0 : Nat} {xs : List S39} (h : Cln w wr ok g0 xs) : Calls Tryd.prog 26 #[.pointer (some ⟨g0, 0, none⟩)] wr fun e w' => e = .returned (.int .i64 (xs.length : Int)) ∧ w' = wr := by
  obtain ⟨v, hv, hR⟩ := h.bx
  obtain ⟨A, c, rfl⟩ := Kd.R_slice hR
  exact count_made wr g0 _ c A hv
theorem Chk.add {w wr : World} {ok : Nat → Prop} {g0 : Nat} {xs : List S39} (h : Chk w wr ok g0 xs) (hl : xs.length < 65535) (t v : Int) :
    Calls Tryd.prog 22 #[.pointer (some ⟨g0, 0, none⟩), .agg #[.int .i64 t, .int .u64 v]] wr fun e w' => e = .returned (.int .i64 0) ∧ Chk w w' ok g0 (xs ++ [⟨t, v⟩]) ∧ Mod (fun k => ok k ∨ k = g0) wr w' := by
  obtain ⟨v0, hv, hR⟩ := h.bx
  refine (add_made wr g0 w.heap.size ok v0 xs hv hR h.fr h.B.size t v hl).mono ?_
  rintro e w' ⟨he, v1, hv1, hR1, hM⟩
  refine ⟨he, ⟨⟨v1, hv1, hR1⟩, h.okg, fun k hk => h.fr k (Nat.le_trans hM.size hk), h.lo, h.B.trans (hM.below h.B.size ?_)⟩, hM⟩
  rintro k (hk | rfl)
  · exact h.lo k hk
  · exact h.lo _ h.okg
theorem Chk.clone {w wr : World} {ok : Nat → Prop} {g0 : Nat} {xs : List S39} (h : Chk w wr ok g0 xs) (hl : xs.length ≤ 50000) :
    Calls Tryd.prog 25 #[.pointer (some ⟨g0, 0, none⟩)] wr fun e w' => ∃ g1, e = .returned (.pointer (some ⟨g1, 0, none⟩)) ∧ Chk w w' (fun k => ok k ∧ ¬ (wr.heap.size ≤ k ∧ k < w'.heap.size)) g0 xs ∧ Cln w w' (fun k => wr.heap.size ≤ k ∧ k < w'.heap.size) g1 xs ∧ Below wr.heap.size wr w' := by
  obtain ⟨v0, hv, hR⟩ := h.bx
  obtain ⟨A, c, rfl⟩ := Kd.R_slice hR
  refine (clone_made wr g0 c A xs hv (Kd.R_reads' hR).2.2 hl).mono ?_
  rintro e w' ⟨g1, v1, he, hg1, hR1, hle, hB⟩
  exact ⟨g1, he, h.beside hB, ⟨⟨v1, hg1, Kd.R_lower (Kd.R_mono (Kd.R_bound hR1) (fun k hk => ⟨hk.2.1, hk.2.2.1⟩)) h.B.size⟩, hle, blk_lt hg1⟩, hB⟩
theorem box_bytes {wr : World} {g0 base : Nat} {ok : Nat → Prop} {v : Value} {xs : List S39} (hv : wr.heap[g0]? = some (.cells #[.bool true, v] 54 (0, 0))) (hR : Kd.R k39 39 wr base ok v xs) (hw : xs.all smpOkB = true) (hl : xs.length ≤ 50000) (hT : Tab wr) :
    Calls Tryd.prog 23 #[.pointer (some ⟨g0, 0, none⟩)] wr fun e w' => ∃ v, e = .returned v ∧ (Kd.int .u8).R 5 w' wr.heap.size (fun _ => True) v (packL (smps xs)) ∧ Below wr.heap.size wr w' := by
  obtain ⟨A, c, rfl⟩ := Kd.R_slice hR
  exact bytes_made wr g0 c A xs hv (Kd.R_reads' hR).2.2 (all_f1 hw) (smps_ok xs hw) hl hT
theorem Chk.last {w wr : World} {ok : Nat → Prop} {g0 : Nat} {xs : List S39} {x : S39} (h : Chk w wr ok g0 (xs ++ [x])) (hw : (xs ++ [x]).all smpOkB = true) (hl : (xs ++ [x]).length ≤ 50000) :
    Calls Tryd.prog 27 #[.pointer (some ⟨g0, 0, none⟩)] wr fun e w' => e = .returned (.tuple #[.agg #[.int .i64 x.f0, .int .u64 x.f1], .bool true]) ∧ Below wr.heap.size wr w' := by
  obtain ⟨v, hv, hR⟩ := h.bx
  obtain ⟨A, c, rfl⟩ := Kd.R_slice hR
  have hlen := smps_length (xs ++ [x])
  rw [← hlen] at hv
  have h1 := last_made wr g0 c A (smps (xs ++ [x])) hv (smpRow_of (Kd.R_reads' hR).2.2 (all_f1 hw)) (by rw [hlen]; simp) (by rw [hlen]; exact hl)
  have hx : (smps (xs ++ [x])).getD ((smps (xs ++ [x])).length - 1) (0, 0) = (x.f0, x.f1.toNat) := by
    rw [hlen, List.length_append, List.length_singleton, Nat.add_sub_cancel]
    unfold smps
    rw [List.getD_eq_getElem?_getD, List.getElem?_map, List.getElem?_append_right (Nat.le_refl _), Nat.sub_self]
    rfl
  rw [hx] at h1
  have h0 := all_f1 hw x (by simp)
  simp only [Int.toNat_of_nonneg h0] at h1
  exact h1
structure AddSt (w wr : World) (N0 N1 g0 : Nat) (D : Prop) (xs ys : List S39) (s6 : Value) : Prop where
  K : Chk w wr (okA w N0 N1) g0 xs
  C : (¬ D ∧ s6 = .pointer none ∧ N0 = 0 ∧ N1 = 0) ∨ (D ∧ ∃ g1, s6 = .pointer (some ⟨g1, 0, none⟩) ∧ Cln w wr (fun k => N0 ≤ k ∧ k < N1) g1 ys)
structure AddIn (w wr : World) (N0 N1 g0 bs : Nat) (D : Prop) (xs ys : List S39) (s6 : Value) (t v : Int) : Prop where
  K : Chk w wr (fun k => okA w N0 N1 k ∧ k ≠ bs) g0 xs
  C : (¬ D ∧ s6 = .pointer none ∧ N0 = 0 ∧ N1 = 0) ∨ (D ∧ ∃ g1, s6 = .pointer (some ⟨g1, 0, none⟩) ∧ Cln w wr (fun k => N0 ≤ k ∧ k < N1) g1 ys)
  bx : wr.heap[bs]? = some (.cells #[.int .i64 t, .int .u64 v] 39 (0, 0))
theorem AddSt.enter {w wr w1 : World} {N0 N1 g0 : Nat} {D : Prop} {xs ys : List S39} {s6 : Value} (h : AddSt w wr N0 N1 g0 D xs ys s6) {t v : Int} (hB : Below wr.heap.size wr w1) (hx : w1.heap[wr.heap.size]? = some (.cells #[.int .i64 t, .int .u64 v] 39 (0, 0))) : AddIn w w1 N0 N1 g0 wr.heap.size D xs ys s6 t v := by
  refine ⟨(h.K.beside hB).weaken (fun k hk => ⟨hk.1, fun e => hk.2 (by have := blk_lt hx; omega)⟩) (fun k hk => hk.1.1), ?_, hx⟩
  rcases h.C with h1 | ⟨hD, g1, h1, h2⟩
  · exact .inl h1
  · exact .inr ⟨hD, g1, h1, h2.below hB⟩
theorem AddIn.cong {w wr : World} {N0 N1 g0 bs : Nat} {D D' : Prop} {xs ys : List S39} {s6 : Value} {t v : Int} (h : AddIn w wr N0 N1 g0 bs D xs ys s6 t v) (hD : D ↔ D') : AddIn w wr N0 N1 g0 bs D' xs ys s6 t v := by
  have e : D = D' := propext hD
  subst e
  exact h
theorem SmpRow.take {w : World} {A : Option Addr} {L : List (Int × Nat)} (h : SmpRow w A L) (m : Nat) : SmpRow w A (L.take m) := by
  intro i hi
  have hl : i < L.length := by rw [List.length_take] at hi; omega
  have hm : i < m := by rw [List.length_take] at hi; omega
  have e : (L.take m).getD i (0, 0) = L.getD i (0, 0) := by rw [List.getD_eq_getElem?_getD, List.getD_eq_getElem?_getD, List.getElem?_take, if_pos hm]
  rw [e]
  exact h i hl
theorem smps_take (l : List S39) (m : Nat) : smps (l.take m) = (smps l).take m := List.map_take
theorem take_ok {l : List S39} (h : l.all smpOkB = true) (m : Nat) : (l.take m).all smpOkB = true := List.all_eq_true.2 fun x hx => List.all_eq_true.1 h x (List.mem_of_mem_take hx)
theorem smp_at {l : List S39} (h : l.all smpOkB = true) {i : Nat} (hi : i < l.length) : ∃ (t : Int) (v : Nat), (smps l).getD i (0, 0) = (t, v) ∧ l.take i ++ [(⟨t, (v : Int)⟩ : S39)] = l.take (i + 1) := by
  have h0 := all_f1 h l[i] (List.getElem_mem hi)
  refine ⟨l[i].f0, l[i].f1.toNat, ?_, ?_⟩
  · unfold smps
    rw [List.getD_eq_getElem?_getD, List.getElem?_map, List.getElem?_eq_getElem hi]
    rfl
  · rw [List.take_succ_eq_append_getElem hi, Int.toNat_of_nonneg h0]
theorem AddIn.leave {w wr : World} {N0 N1 g0 bs : Nat} {D : Prop} {xs ys : List S39} {s6 : Value} {t v : Int} (h : AddIn w wr N0 N1 g0 bs D xs ys s6 t v) : AddSt w wr N0 N1 g0 D xs ys s6 :=
  ⟨h.K.weaken (fun k hk => hk.1) (fun k hk => hk.1), h.C⟩
theorem AddIn.below {w wr w1 : World} {N0 N1 g0 bs : Nat} {D : Prop} {xs ys : List S39} {s6 : Value} {t v : Int} (h : AddIn w wr N0 N1 g0 bs D xs ys s6 t v) (hB : Below wr.heap.size wr w1) : AddIn w w1 N0 N1 g0 bs D xs ys s6 t v := by
  refine ⟨h.K.below hB, ?_, (hB.block bs (blk_lt h.bx)).trans h.bx⟩
  rcases h.C with h1 | ⟨hD, g1, h1, h2⟩
  · exact .inl h1
  · exact .inr ⟨hD, g1, h1, h2.below hB⟩
theorem AddIn.add {w wr : World} {N0 N1 g0 bs : Nat} {D : Prop} {xs ys : List S39} {s6 : Value} {t v : Int} (h : AddIn w wr N0 N1 g0 bs D xs ys s6 t v) (hl : xs.length < 65535) :
    Calls Tryd.prog 22 #[.pointer (some ⟨g0, 0, none⟩), .agg #[.int .i64 t, .int .u64 v]] wr fun e w' => e = .returned (.int .i64 0) ∧ AddIn w w' N0 N1 g0 bs D (xs ++ [⟨t, v⟩]) ys s6 t v := by
  refine (h.K.add hl t v).mono ?_
  rintro e w' ⟨he, hK, hM⟩
  obtain ⟨v0, hv, _⟩ := h.K.bx
  refine ⟨he, hK, ?_, hM.blk h.bx ?_⟩
  · rcases h.C with h1 | ⟨hD, g1, h1, h2⟩
    · exact .inl h1
    · exact .inr ⟨hD, g1, h1, h2.kept hM h.K.okg (fun k hk hn => hn.1.2 hk)⟩
  · rintro (hk | hk)
    · exact hk.2 rfl
    · exact blk_ne h.bx hv (by decide) hk
theorem AddIn.clone {w wr : World} {g0 bs : Nat} {D : Prop} {xs ys : List S39} {s6 : Value} {t v : Int} {N0 N1 : Nat} (h : AddIn w wr N0 N1 g0 bs D xs ys s6 t v) (hD : ¬ D) (hl : xs.length ≤ 50000) (D' : Prop) (hD' : D') :
    Calls Tryd.prog 25 #[.pointer (some ⟨g0, 0, none⟩)] wr fun e w' => ∃ g1, e = .returned (.pointer (some ⟨g1, 0, none⟩)) ∧ AddIn w w' wr.heap.size w'.heap.size g0 bs D' xs xs (.pointer (some ⟨g1, 0, none⟩)) t v := by
  refine (h.K.clone hl).mono ?_
  rintro e w' ⟨g1, he, hK, hC, hB⟩
  refine ⟨g1, he, hK.weaken (fun k hk => ⟨⟨hk.1.1.1, hk.2⟩, hk.1.2⟩) (fun k hk => hk.1.1), .inr ⟨hD', g1, rfl, hC⟩, (hB.block bs (blk_lt h.bx)).trans h.bx⟩
theorem put_take (w : World) (A : Option Addr) (c m : Nat) (l : List S39) (hR : SmpRow w A (smps l)) (hw : l.all smpOkB = true) (hm : m ≤ l.length) (hl : m ≤ 50000) :
    Calls Tryd.prog 13 #[.slice A m c] w fun e w' => ∃ v, e = .returned (.tuple #[v, .int .i64 0]) ∧ (Kd.int .u8).R 5 w' w.heap.size (fun _ => True) v (packL (smps (l.take m))) ∧ Below w.heap.size w w' := by
  have hlen : (smps (l.take m)).length = m := by rw [smps_length, List.length_take]; omega
  have h := rput08 w A c (smps (l.take m)) (by rw [smps_take]; exact SmpRow.take hR m) (smps_ok _ (take_ok hw m)) (by rw [hlen]; exact hl)
  rw [hlen] at h
  exact h
theorem equal_same (w : World) {b1 b2 : Nat} {ok1 ok2 : Nat → Prop} {v1 v2 : Value} {xs : List Int} (h1 : (Kd.int .u8).R 5 w b1 ok1 v1 xs) (h2 : (Kd.int .u8).R 5 w b2 ok2 v2 xs) (hl : xs.length ≤ 1000000000000) :
    Calls Tryd.prog 14 #[v1, v2] w fun e w' => e = .returned (.bool true) ∧ Below w.heap.size w w' := by
  obtain ⟨A1, c1, rfl⟩ := Kd.R_slice h1
  obtain ⟨A2, c2, rfl⟩ := Kd.R_slice h2
  refine (requal_calls w A1 A2 c1 c2 xs xs (Kd.R_reads' h1).2.2 (Kd.R_reads' h2).2.2 hl hl).mono ?_
  rintro e w' ⟨he, nq, hw⟩
  rw [decide_eq_true rfl] at he
  exact ⟨he, by rw [hw]; exact pw_below_drewN (Below.refl _ _) nq⟩
theorem pack_bound (l : List S39) (hw : l.all smpOkB = true) (hl : l.length ≤ 50000) : (packL (smps l)).length ≤ 1000000000000 := by
  have hp := pack_len (smps l) (smps_ok l hw)
  rw [smps_length] at hp
  omega
end Go.Proofs.YtmllgglcdlcdhaaDoor.PXL
end
section
namespace Go.Proofs.YtmllgglcdlcdhaaDoor.PXL
open Go Go.RowKit Go.Proofs.YtmllgglcdlcdhaaDoor Go.Proofs.YtmllgglcdlcdhaaDoorW.PrintWords Go.Proofs.YtmllgglcdlcdhaaDoorW.PrintMore Go.Proofs.YtmllgglcdlcdhaaDoorW.PrintLast Bq Xs Go.Proofs.YtmllgglcdlcdhaaDoor.Pu
set_option linter.unusedVariables false
set_option maxRecDepth 100000
set_option linter.unusedSimpArgs false
attribute [local go_sem ↓] Go.wp_at_zero Go.wp_at_succ
attribute [local go_sem high] eqA39
set_option maxHeartbeats 8000000 in
theorem xorAdds_calls (w : World) (cut : Int) (A : Option Addr) (c : Nat) (l : List S39) (hC : Kd.C k39 w A l.length l) (hc : l.length ≤ c) (hw : l.all smpOkB = true) (hT : Tab w) :
    Calls Tryd.prog 9 #[.slice A l.length c, .int .i64 cut] w fun e w' => e = .returned (.bool true) ∧ Below w.heap.size w w' := by
  have HL := Lib.hid (fun (W : World) (hW : Below w.heap.size w W) => manometerlaw08_live.calls true W ⟨Tab_below hT hW⟩ live08)
  have HR := Lib.hid (fun (W : World) (hW : Below w.heap.size w W) => (smpRow_of hC (all_f1 hw)).below hW)
  have HT := Lib.hid (fun (W : World) (hW : Below w.heap.size w W) => Tab_below hT hW)
  have HY := Lib.hid hw
  obtain ⟨n, hn⟩ : ∃ n, n = l.length := ⟨_, rfl⟩
  rw [← hn]
  have HN := Lib.hid hn
  have hls := smps_length l
  rw [← hn] at hls hc
  have HCc := Lib.hid hc
  have HLS := Lib.hid hls
  clear hC hT hw hn hls hc
  by_cases h3 : 60 < n
  · have h3i : (n : Int) > 60 := by omega
    clear h3
    go_enter Tryd.func9, Tryd.ntmps9
    go_wp2_with fail
    refine (HL.out w (Below.refl _ _)).mono ?_
    rintro e w2 ⟨rfl, hB2⟩
    have HB2 := Lib.hid hB2
    clear hB2
    go_wp2_with fail
    refine (HL.out w2 HB2.out).mono ?_
    rintro e w3 ⟨rfl, hB3⟩
    have HB3 := Lib.hid (HB2.out.trans (below_lower hB3 HB2.out.size))
    clear hB3
    go_wp2_with fail
    go_ret
    exact ⟨rfl, HB3.out⟩
  · have h3i : ¬ (n : Int) > 60 := by omega
    have HN60 : Hid (n ≤ 60) := Lib.hid (by omega)
    clear h3
    go_enter Tryd.func9, Tryd.ntmps9
    go_upto_region 3 with (go_at_call 11; refine (HL.out w (Below.refl _ _)).mono ?_; rintro e w2 ⟨rfl, hB2⟩; have HB2 := Lib.hid hB2; clear hB2)
    go_upto_region 7 with (go_at_call 21; refine (chk_new w w2 HB2.out).mono ?_; rintro e w3 ⟨g0, rfl, hK⟩; have HK := Lib.hid hK; clear hK)
    have HS0 : Hid (AddSt w w3 0 0 g0 (0 ≤ cut ∧ cut < ((0 : Nat) : Int)) (l.take 0) (l.take cut.toNat) (.pointer none)) := Lib.hid ⟨by rw [List.take_zero]; exact HK.out, .inl ⟨by omega, rfl, rfl, rfl⟩⟩
    clear HK HB2 h3i
    go_wp2
    go_loopg [6, 28] n (fun kq s6 s28 wr => ∃ (i N0 N1 : Nat), i + kq = n ∧ s28 = .int .i64 (i : Int) ∧ Hid (AddSt w wr N0 N1 g0 (0 ≤ cut ∧ cut < (i : Int)) (l.take i) (l.take cut.toNat) s6))
    case atStart => exact ⟨0, 0, 0, by omega, rfl, HS0.out⟩
    case round =>
      obtain ⟨i, N0, N1, hik, rfl, HS⟩ := hrel
      have HIK := Lib.hid hik
      clear hik
      rcases Nat.lt_or_ge i n with hi | hi
      · obtain ⟨t, v, hx, htk⟩ := smp_at HY.out (i := i) (by rw [← HN.out]; exact hi)
        obtain ⟨ad, hA, r0, r1⟩ := HR.out wr HS.out.K.B i (by rw [HLS.out]; exact hi)
        rw [hx] at r0 r1
        subst hA
        have HTK := Lib.hid htk
        have p0 : wr.cell? (ad.add (i * 2)) = some (.int .i64 t) := r0
        have p1 : wr.cell? ⟨(ad.add (i * 2)).block, (ad.add (i * 2)).off + 1, none⟩ = some (.int .u64 (v : Nat)) := by rw [add_next_cell]; exact r1
        have hlt : (i : Int) < (n : Int) := by omega
        have HI := Lib.hid hi
        have hi1 : IntKind.i64.wrap ((i : Int) + 1) = (i : Int) + 1 := IntWalk.i64_in _ (by have := HN60.out; omega)
        clear hx htk r0 r1 hi
        go_upto_region 10 with fail
        obtain ⟨W1, hW1⟩ : ∃ W1, W1 = wr.alloc (.cells #[.int .i64 t, .int .u64 (v : Nat)] 39) := ⟨_, rfl⟩
        have HB1 : Below wr.heap.size wr W1 := by rw [hW1]; exact below_alloc (Below.refl _ _) _
        have HX1 : W1.heap[wr.heap.size]? = some (.cells #[.int .i64 t, .int .u64 (v : Nat)] 39 (0, 0)) := by rw [hW1]; exact heap_alloc_new wr _
        have H1 := Lib.hid (HS.out.enter HB1 HX1)
        rw [← hW1]
        clear hW1 HB1 HX1 p0 p1 hlt
        obtain ⟨bs, hbs⟩ : ∃ bs, bs = wr.heap.size := ⟨_, rfl⟩
        rw [← hbs] at H1 ⊢
        clear hbs HS
        by_cases hc : (i : Int) = cut
        · have hct : ((i : Int) == cut) = true := by rw [hc]; simp
          have HCC := Lib.hid hc
          clear hc
          go_upto_region 14 with (go_at_call 25; go_loud (refine (H1.out.clone (by have := HCC.out; omega) (by rw [List.length_take]; have := HN60.out; have := HN.out; omega) (0 ≤ cut ∧ cut < ((i + 1 : Nat) : Int)) (by have := HCC.out; omega)).mono ?_); rintro e w5 ⟨g1, rfl, h⟩; have H5 := Lib.hid h; clear h)
          have H6 : Hid (AddIn w w5 W1.heap.size w5.heap.size g0 bs (0 ≤ cut ∧ cut < ((i + 1 : Nat) : Int)) (l.take i) (l.take cut.toNat) (.pointer (some ⟨g1, 0, none⟩)) t (v : Int)) := Lib.hid (by rw [← HCC.out, Int.toNat_natCast]; rw [HCC.out]; exact H5.out)
          clear H5
          obtain ⟨M0, hM0⟩ : ∃ M0, M0 = W1.heap.size := ⟨_, rfl⟩
          obtain ⟨M1, hM1⟩ : ∃ M1, M1 = w5.heap.size := ⟨_, rfl⟩
          obtain ⟨s6, hs6⟩ : ∃ s6, s6 = Value.pointer (some ⟨g1, 0, none⟩) := ⟨_, rfl⟩
          rw [← hM0, ← hM1, ← hs6] at H6
          rw [← hs6]
          clear hM0 hM1 hs6 HCC hct H1
          have ca0 : w5.cell? ⟨bs, 0, none⟩ = some (.int .i64 t) := (blk_cell H6.out.bx 0).trans rfl
          have ca1 : w5.cell? ⟨bs, 1, none⟩ = some (.int .u64 (v : Nat)) := (blk_cell H6.out.bx 1).trans rfl
          go_upto_region 16 with
            (first
              | (go_at_call 22; go_loud (refine (H6.out.add (by rw [List.length_take]; have := HN60.out; have := HN.out; omega)).mono ?_); rintro e w6 ⟨rfl, h⟩; rw [HTK.out] at h; have H7 := Lib.hid h; clear h ca0 ca1)
              | (go_at_call 26; go_loud (refine H7.out.K.count.mono ?_); rintro e w7 ⟨rfl, rfl⟩; rw [show (((l.take (i + 1)).length : Nat) : Int) = (i : Int) + 1 from by rw [List.length_take]; have := HI.out; have := HN.out; omega]))
          have hlo : (0 : Int) ≤ (i : Int) + 1 := by omega
          have hhi : (i : Int) + 1 ≤ (c : Int) := by have := HI.out; have := HCc.out; omega
          have htn : ((i : Int) + 1).toNat = i + 1 := by omega
          go_upto_region 17 with (go_at_call 13; go_loud (refine (put_take _ (some ad) c (i + 1) l (HR.out _ H7.out.K.B) HY.out (by have := HI.out; have := HN.out; omega) (by have := HI.out; have := HN60.out; omega)).mono ?_); rintro e w8 ⟨v8, rfl, h, hB⟩; have HV8 := Lib.hid h; have H8 := Lib.hid (H7.out.below hB); clear h hB H7)
          clear hlo hhi htn
          go_upto_region 18 with (go_at_call 27; go_loud (refine (Chk.last (x := ⟨t, (v : Nat)⟩) (by have h := H8.out.K; rw [← HTK.out] at h; exact h) (by rw [HTK.out]; exact take_ok HY.out _) (by rw [HTK.out, List.length_take]; have := HN60.out; have := HI.out; omega)).mono ?_); rintro e w9 ⟨rfl, hB⟩; have HV9 := Lib.hid (Kd.R_below HV8.out hB); have H9 := Lib.hid (H8.out.below hB); clear hB H8 HV8)
          obtain ⟨W10, hW10⟩ : ∃ W10, W10 = w9.alloc (.cells #[.int .i64 t, .int .u64 (v : Nat)] 39) := ⟨_, rfl⟩
          obtain ⟨b11, hb11⟩ : ∃ b11, b11 = w9.heap.size := ⟨_, rfl⟩
          have hB10 : Below w9.heap.size w9 W10 := by rw [hW10]; exact below_alloc (Below.refl _ _) _
          have HX10 := Lib.hid (show W10.heap[b11]? = some (.cells #[.int .i64 t, .int .u64 (v : Nat)] 39 (0, 0)) from by rw [hW10, hb11]; exact heap_alloc_new w9 _)
          have HV10 := Lib.hid (Kd.R_below HV9.out hB10)
          have H10 := Lib.hid (H9.out.below hB10)
          rw [← hW10, ← hb11]
          clear hW10 hb11 hB10 HV9 H9
          go_upto_region 20 with
            (first
              | (go_at_call 23; go_loud (refine ((by obtain ⟨vb, hvb, hRb⟩ := H10.out.K.bx; exact box_bytes hvb hRb (take_ok HY.out _) (by rw [List.length_take]; have := HN60.out; have := HI.out; omega) (HT.out _ H10.out.K.B)) : Calls Tryd.prog 23 #[.pointer (some ⟨g0, 0, none⟩)] W10 fun e w' => ∃ v, e = .returned v ∧ (Kd.int .u8).R 5 w' W10.heap.size (fun _ => True) v (packL (smps (l.take (i + 1)))) ∧ Below W10.heap.size W10 w').mono ?_); rintro e w11 ⟨v11, rfl, h, hB⟩; have HV11 := Lib.hid h; have HW11 := Lib.hid (Kd.R_below HV10.out hB); have H11 := Lib.hid (H10.out.below hB); have HX11 := Lib.hid ((hB.block b11 (blk_lt HX10.out)).trans HX10.out); clear h hB H10 HV10 HX10)
              | (go_at_call 14; go_loud (refine (equal_same _ HV11.out HW11.out (pack_bound _ (take_ok HY.out _) (by rw [List.length_take]; have := HN60.out; have := HI.out; omega))).mono ?_); rintro e w12 ⟨rfl, hB⟩; have H12 := Lib.hid (H11.out.below hB); have hx12 := (hB.block b11 (blk_lt HX11.out)).trans HX11.out; have da0 : w12.cell? ⟨b11, 0, none⟩ = some (.int .i64 t) := (blk_cell hx12 0).trans rfl; have da1 : w12.cell? ⟨b11, 1, none⟩ = some (.int .u64 (v : Nat)) := (blk_cell hx12 1).trans rfl; have ea0 : w12.cell? ⟨bs, 0, none⟩ = some (.int .i64 t) := (blk_cell H12.out.bx 0).trans rfl; have ea1 : w12.cell? ⟨bs, 1, none⟩ = some (.int .u64 (v : Nat)) := (blk_cell H12.out.bx 1).trans rfl; clear hB hx12 H11 HX11 HV11 HW11))
          clear da0 da1 ea0 ea1
          have hik2 := HIK.out
          have hi2 := HI.out
          go_wp2
          go_roundg (gk - 1)
          case measure => omega
          case rel => exact ⟨i + 1, M0, M1, by omega, by go_num, H12.out.leave⟩
        · have hct : ((i : Int) == cut) = false := beq_false_of_ne hc
          have H6 := Lib.hid (H1.out.cong (D' := 0 ≤ cut ∧ cut < ((i + 1 : Nat) : Int)) (by omega))
          clear H1 hc
          go_upto_region 14 with fail
          clear hct
          obtain ⟨w5, hw5⟩ : ∃ w5, w5 = W1 := ⟨_, rfl⟩
          obtain ⟨M0, hM0⟩ : ∃ M0, M0 = N0 := ⟨_, rfl⟩
          obtain ⟨M1, hM1⟩ : ∃ M1, M1 = N1 := ⟨_, rfl⟩
          obtain ⟨s6, hs6⟩ : ∃ s6, s6 = u6 := ⟨_, rfl⟩
          subst hw5 hM0 hM1 hs6
          have ca0 : w5.cell? ⟨bs, 0, none⟩ = some (.int .i64 t) := (blk_cell H6.out.bx 0).trans rfl
          have ca1 : w5.cell? ⟨bs, 1, none⟩ = some (.int .u64 (v : Nat)) := (blk_cell H6.out.bx 1).trans rfl
          go_upto_region 16 with
            (first
              | (go_at_call 22; go_loud (refine (H6.out.add (by rw [List.length_take]; have := HN60.out; have := HN.out; omega)).mono ?_); rintro e w6 ⟨rfl, h⟩; rw [HTK.out] at h; have H7 := Lib.hid h; clear h ca0 ca1)
              | (go_at_call 26; go_loud (refine H7.out.K.count.mono ?_); rintro e w7 ⟨rfl, rfl⟩; rw [show (((l.take (i + 1)).length : Nat) : Int) = (i : Int) + 1 from by rw [List.length_take]; have := HI.out; have := HN.out; omega]))
          have hlo : (0 : Int) ≤ (i : Int) + 1 := by omega
          have hhi : (i : Int) + 1 ≤ (c : Int) := by have := HI.out; have := HCc.out; omega
          have htn : ((i : Int) + 1).toNat = i + 1 := by omega
          go_upto_region 17 with (go_at_call 13; go_loud (refine (put_take _ (some ad) c (i + 1) l (HR.out _ H7.out.K.B) HY.out (by have := HI.out; have := HN.out; omega) (by have := HI.out; have := HN60.out; omega)).mono ?_); rintro e w8 ⟨v8, rfl, h, hB⟩; have HV8 := Lib.hid h; have H8 := Lib.hid (H7.out.below hB); clear h hB H7)
          clear hlo hhi htn
          go_upto_region 18 with (go_at_call 27; go_loud (refine (Chk.last (x := ⟨t, (v : Nat)⟩) (by have h := H8.out.K; rw [← HTK.out] at h; exact h) (by rw [HTK.out]; exact take_ok HY.out _) (by rw [HTK.out, List.length_take]; have := HN60.out; have := HI.out; omega)).mono ?_); rintro e w9 ⟨rfl, hB⟩; have HV9 := Lib.hid (Kd.R_below HV8.out hB); have H9 := Lib.hid (H8.out.below hB); clear hB H8 HV8)
          obtain ⟨W10, hW10⟩ : ∃ W10, W10 = w9.alloc (.cells #[.int .i64 t, .int .u64 (v : Nat)] 39) := ⟨_, rfl⟩
          obtain ⟨b11, hb11⟩ : ∃ b11, b11 = w9.heap.size := ⟨_, rfl⟩
          have hB10 : Below w9.heap.size w9 W10 := by rw [hW10]; exact below_alloc (Below.refl _ _) _
          have HX10 := Lib.hid (show W10.heap[b11]? = some (.cells #[.int .i64 t, .int .u64 (v : Nat)] 39 (0, 0)) from by rw [hW10, hb11]; exact heap_alloc_new w9 _)
          have HV10 := Lib.hid (Kd.R_below HV9.out hB10)
          have H10 := Lib.hid (H9.out.below hB10)
          rw [← hW10, ← hb11]
          clear hW10 hb11 hB10 HV9 H9
          go_upto_region 20 with
            (first
              | (go_at_call 23; go_loud (refine ((by obtain ⟨vb, hvb, hRb⟩ := H10.out.K.bx; exact box_bytes hvb hRb (take_ok HY.out _) (by rw [List.length_take]; have := HN60.out; have := HI.out; omega) (HT.out _ H10.out.K.B)) : Calls Tryd.prog 23 #[.pointer (some ⟨g0, 0, none⟩)] W10 fun e w' => ∃ v, e = .returned v ∧ (Kd.int .u8).R 5 w' W10.heap.size (fun _ => True) v (packL (smps (l.take (i + 1)))) ∧ Below W10.heap.size W10 w').mono ?_); rintro e w11 ⟨v11, rfl, h, hB⟩; have HV11 := Lib.hid h; have HW11 := Lib.hid (Kd.R_below HV10.out hB); have H11 := Lib.hid (H10.out.below hB); have HX11 := Lib.hid ((hB.block b11 (blk_lt HX10.out)).trans HX10.out); clear h hB H10 HV10 HX10)
              | (go_at_call 14; go_loud (refine (equal_same _ HV11.out HW11.out (pack_bound _ (take_ok HY.out _) (by rw [List.length_take]; have := HN60.out; have := HI.out; omega))).mono ?_); rintro e w12 ⟨rfl, hB⟩; have H12 := Lib.hid (H11.out.below hB); have hx12 := (hB.block b11 (blk_lt HX11.out)).trans HX11.out; have da0 : w12.cell? ⟨b11, 0, none⟩ = some (.int .i64 t) := (blk_cell hx12 0).trans rfl; have da1 : w12.cell? ⟨b11, 1, none⟩ = some (.int .u64 (v : Nat)) := (blk_cell hx12 1).trans rfl; have ea0 : w12.cell? ⟨bs, 0, none⟩ = some (.int .i64 t) := (blk_cell H12.out.bx 0).trans rfl; have ea1 : w12.cell? ⟨bs, 1, none⟩ = some (.int .u64 (v : Nat)) := (blk_cell H12.out.bx 1).trans rfl; clear hB hx12 H11 HX11 HV11 HW11))
          clear da0 da1 ea0 ea1
          have hik2 := HIK.out
          have hi2 := HI.out
          go_wp2
          go_roundg (gk - 1)
          case measure => omega
          case rel => exact ⟨i + 1, M0, M1, by omega, by go_num, H12.out.leave⟩
      · have hlt : ¬ ((i : Int) < (n : Int)) := by omega
        have hin : i = n := by have := HIK.out; omega
        rcases HS.out.C with ⟨hD, rfl, _, _⟩ | ⟨hD, g1, rfl, hCl⟩
        · have HB := Lib.hid HS.out.K.B
          clear HS hD hin hi
          go_wp2_with fail
          go_ret
          exact ⟨rfl, HB.out⟩
        · obtain ⟨m, rfl⟩ : ∃ m : Nat, cut = m := ⟨cut.toNat, by omega⟩
          rw [Int.toNat_natCast] at hCl
          have hmn : m < n := by omega
          obtain ⟨ad, hA, _, _⟩ := HR.out wr HS.out.K.B 0 (by rw [HLS.out]; omega)
          subst hA
          have HB := Lib.hid HS.out.K.B
          have HC := Lib.hid hCl
          have HMN := Lib.hid hmn
          have hlo : (0 : Int) ≤ (m : Int) := by omega
          have hhi : (m : Int) ≤ (c : Int) := by have := HCc.out; omega
          clear HS hD hin hi hCl hmn
          go_upto_region 24 with (go_at_call 13; go_loud (refine (put_take _ (some ad) c m l (HR.out _ HB.out) HY.out (by have := HMN.out; have := HN.out; omega) (by have := HMN.out; have := HN60.out; omega)).mono ?_); rintro e w8 ⟨v8, rfl, h, hB⟩; have HV8 := Lib.hid h; have HC8 := Lib.hid (HC.out.below hB); have HB8 := Lib.hid (HB.out.trans (below_lower hB HB.out.size)); clear h hB)
          clear hlo hhi hlt
          go_wp2_with fail
          go_loud (refine ((by obtain ⟨vb, hvb, hRb⟩ := HC8.out.bx; exact box_bytes hvb hRb (take_ok HY.out _) (by rw [List.length_take]; have := HN60.out; have := HMN.out; omega) (HT.out _ HB8.out)) : Calls Tryd.prog 23 #[.pointer (some ⟨g1, 0, none⟩)] w8 fun e w' => ∃ v, e = .returned v ∧ (Kd.int .u8).R 5 w' w8.heap.size (fun _ => True) v (packL (smps (l.take m))) ∧ Below w8.heap.size w8 w').mono ?_)
          rintro e w11 ⟨v11, rfl, h, hB⟩
          have HV11 := Lib.hid h
          have HW11 := Lib.hid (Kd.R_below HV8.out hB)
          have HC11 := Lib.hid (HC8.out.below hB)
          have HB11 := Lib.hid (HB8.out.trans (below_lower hB HB8.out.size))
          clear h hB HC8 HV8
          go_wp2_with fail
          go_loud (refine (equal_same _ HV11.out HW11.out (pack_bound _ (take_ok HY.out _) (by rw [List.length_take]; have := HN60.out; have := HMN.out; omega))).mono ?_)
          rintro e w12 ⟨rfl, hB⟩
          have HC12 := Lib.hid (HC11.out.below hB)
          have HB12 := Lib.hid (HB11.out.trans (below_lower hB HB11.out.size))
          clear hB HC11 HV11 HW11
          go_wp2_with fail
          go_loud (refine HC12.out.count.mono ?_)
          rintro e w13 ⟨rfl, rfl⟩
          rw [show (((l.take m).length : Nat) : Int) = (m : Int) from by rw [List.length_take]; have := HMN.out; have := HN.out; omega]
          go_wp2_with fail
          go_ret
          exact ⟨rfl, HB12.out⟩
end Go.Proofs.YtmllgglcdlcdhaaDoor.PXL
end
section
namespace Go.Proofs.YtmllgglcdlcdhaaDoor
open Go.RowKit Go.Proofs.YtmllgglcdlcdhaaDoorW.PrintWords Go.Proofs.YtmllgglcdlcdhaaDoorW.PrintMore Go.Proofs.YtmllgglcdlcdhaaDoorW.PrintLast Go.Deep
set_option linter.unusedVariables false
section
variable {H : Type} {enc : TypeId × Value → H} {P : Program} {w : World} {base : Nat} {spare : Nat → Bool} {held : Bool}
theorem opens_iso {α β : Type} {d : Kd α} {wf : α → Prop} {t : TypeId} (f : β → α) (g : α → β) (hg : ∀ y, f (g y) = y) (h : Opens enc P w base spare held t d wf) :
    Opens enc P w base spare held t (Kd.iso d f) (fun x => wf (f x)) := by
  intro fuel cs x hx
  obtain ⟨a, hK, hw⟩ := h fuel cs x hx
  refine ⟨g a, ?_, ?_⟩
  · show d.K w (f (g a)) cs
    rw [hg]
    exact hK
  · show wf (f (g a))
    rw [hg]
    exact hw
end
end Go.Proofs.YtmllgglcdlcdhaaDoor
end
section
namespace Go.Proofs.YtmllgglcdlcdhaaDoor
open Go.RowKit
set_option linter.unusedVariables false
theorem table_reads {P : Program} {w : World} {name : String} {g n : Nat} {t e : TypeId} {k : IntKind} {zs : List Int} (h : Lib.VarReads P w name (.agg (zs.map fun z => .lit (.int k z)))) (hg : P.globalNamed name = some g) (ht : (P.globals[g]?).map (·.type) = some t)
    (ha : P.underlying t = some (.array n e)) (he : P.underlying e = some (.int k)) (hc : P.cellsOf e = 1) : ∀ i, i < n → w.cell? ⟨g, i, none⟩ = some (.int k (zs.getD i 0)) := by
  obtain ⟨g', t', cs, fuel, p, h1, h2, h3, h4⟩ := h
  obtain rfl := Option.some.inj (hg.symm.trans h1)
  obtain rfl := Option.some.inj (ht.symm.trans h2)
  intro i hi
  obtain ⟨f2, d, q, hd, htr⟩ := Lib.array_elem ha h4 i hi
  obtain ⟨z, hz, hx, _⟩ := DataW.trod_int he htr
  rw [List.getElem?_map] at hd
  obtain ⟨z', hz', hzd⟩ := Option.map_eq_some_iff.1 hd
  have hzz : z' = z := by
    have h5 : d = .lit (.int k z) := congrArg Prod.fst hx
    rw [h5] at hzd
    injection hzd with h6
    injection h6
  subst hzz
  rw [hc, Nat.mul_one] at hz
  have h7 : cs.toList[i]? = some (.int k z') := by
    have := congrArg (·[0]?) hz
    simpa [List.getElem?_take, List.getElem?_drop] using this
  have h8 := World.var?_cell h1 h3 i
  rw [h8, List.getD_eq_getElem?_getD, hz']
  simpa using h7
theorem laid_plain {P : Program} {w : World} {l : List (String × DataW Unit)} (h : laidMetH P l w) (hf : (l.filter fun x => x.2.handleName?.isSome).isEmpty = true) : laidMet P l w := by
  unfold laidMetH at h
  split at h
  · exact h
  · rename_i h2
    rw [h2] at hf
    cases hf
end Go.Proofs.YtmllgglcdlcdhaaDoor
end
section
namespace Go.Proofs.YtmllgglcdlcdhaaDoor
open Go Go.RowKit
set_option linter.unusedVariables false
set_option maxRecDepth 100000
theorem tab_of {w : World} (h : laidMetH Tryd.prog [("math/bits.deBruijn64tab", Rows.laid_math_bits_deBruijn64tab)] w) : Tab w := by
  intro j hj
  have hr := Lib.laidMet.reads (laid_plain h (by kernel_rfl)) (List.Mem.head _)
  have h := table_reads (zs := Lib.deBruijn64tab.map Int.ofNat) (show Lib.VarReads _ w _ (.agg ((Lib.deBruijn64tab.map Int.ofNat).map fun z => .lit (.int .u8 z))) from hr) (g := 0) (by kernel_rfl) (by kernel_rfl) Tryd.underlying113 Tryd.underlying5 (by kernel_rfl) j hj
  rw [h, List.getD_eq_getElem?_getD, List.getD_eq_getElem?_getD, List.getElem?_map, List.getElem?_eq_getElem hj]
  rfl
theorem smp_wf {l : List PXL.S39} (h : ∀ x ∈ l, (Lit.int .i64 x.f0).wf = true ∧ (Lit.int .u64 x.f1).wf = true) : l.all PXL.smpOkB = true := by
  refine List.all_eq_true.2 fun x hx => decide_eq_true ⟨wf_i64 (h x hx).1, ?_⟩
  obtain ⟨m, e, hm⟩ := wf_u64 (h x hx).2
  exact ⟨by omega, by omega⟩
end Go.Proofs.YtmllgglcdlcdhaaDoor
end
