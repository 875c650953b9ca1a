import Derived.Test.YtmllgglcdlcdhaaDoorCXorNoneYF
import Derived.Test.YtmllgglcdlcdhaaDoorCXorNonePXLx2
import Derived.Test.YtmllgglcdlcdhaaDoorCXorNoneY1
import Derived.Test.YtmllgglcdlcdhaaDoorCXorNoneYB
import Derived.Test.YtmllgglcdlcdhaaDoorCXorNoneY8
import Derived.Test.YtmllgglcdlcdhaaDoorCXorNoneYI
import Derived.Test.YtmllgglcdlcdhaaDoorCXorNonePXLx1
import Derived.Test.YtmllgglcdlcdhaaDoorCXorNoneYN
import Derived.Test.YtmllgglcdlcdhaaDoorCXorNoneS1
import Derived.Lib.LaidU8
import Derived.LaidMore
import Derived.Test.YtmllgglcdlcdhaaDoorRows
namespace Go.Proofs.YtmllgglcdlcdhaaDoor.Bq
end Go.Proofs.YtmllgglcdlcdhaaDoor.Bq
section
namespace Go.Proofs.YtmllgglcdlcdhaaDoor.PXL
open Go.RowKit Go.Proofs.YtmllgglcdlcdhaaDoorW.PrintWords Go.Proofs.YtmllgglcdlcdhaaDoorW.PrintLast Go.Proofs.YtmllgglcdlcdhaaDoorW.PrintMore
attribute [local go_sem] max2_int min2_int max_two min_two max_three min_three max_four min_four
set_option linter.unusedVariables false
set_option linter.unusedSimpArgs false
end Go.Proofs.YtmllgglcdlcdhaaDoor.PXL
end
section
namespace Go.Proofs.YtmllgglcdlcdhaaDoor.Pu
open Go Go.RowKit Go.Proofs.YtmllgglcdlcdhaaDoor Go.Proofs.YtmllgglcdlcdhaaDoor.PXL Go.Proofs.YtmllgglcdlcdhaaDoorW.PrintWords Go.Proofs.YtmllgglcdlcdhaaDoorW.PrintLast Go.Proofs.YtmllgglcdlcdhaaDoorW.PrintMore Bq Xs
set_option linter.unusedVariables false
set_option linter.unusedSimpArgs false
theorem put_ok (l : List S39) (h : l.all smpOkB = true) (hl : l.length ≤ 50000) : xor_Put.f l = some (packL (smps l), 0) := by
  unfold xor_Put.f
  rw [if_neg (by omega), if_pos hl, if_pos h]
theorem bytB (b : List Int) (hb : Byts b) : b.all (fun x => decide (0 ≤ x ∧ x < 256)) = true := List.all_eq_true.2 fun x hx => decide_eq_true (hb x hx)
theorem get_ok (b : List Int) (hb : Byts b) (hl : b.length ≤ 10000) : xor_Get.f b = some (getS b) := by
  unfold xor_Get.f
  rw [if_pos hl, if_pos (bytB b hb)]
theorem eq_ok (a b : List Int) (ha : a.length ≤ 1000000000) (hb : b.length ≤ 1000000000) : manometerref01_Equal.f a b = some (decide (a = b)) := by
  unfold manometerref01_Equal.f
  rw [if_pos (by omega), if_pos (by omega)]
theorem byts_pack (L : List (Int × Nat)) : Byts (packL L) := byts_packI _
theorem pack_nb16 : pack (nb 0 16) = [0, 0] := by
  rw [show nb 0 16 = nb 0 8 ++ nb 0 8 from rfl, pack_append 1 _ _ (by rw [nb_length]), pack_short (nb 0 8) (by decide) (by decide)]
  rfl
theorem pack_two : packL [] = [0, 0] := by
  have h : packB [] = nb 0 16 := by unfold packB allB; rw [List.append_nil]; rfl
  unfold packL packI
  rw [h, pack_nb16]
  rfl
theorem uv0 : uv 0 = [0] := uv_small 0 (by decide)
theorem pack_one : packL [(0, 4607182418800017408)] = [0, 1, 0, 63, 240, 0, 0, 0, 0, 0, 0] := by
  have h : packB [(0, 4607182418800017408)] = nb 0 8 ++ (nb 1 8 ++ (nb 0 8 ++ (nb 63 8 ++ (nb 240 8 ++ (nb 0 8 ++ (nb 0 8 ++ (nb 0 8 ++ (nb 0 8 ++ (nb 0 8 ++ nb 0 8))))))))) := by
    have h1 : addB st0 0 4607182418800017408 = (bytesB (ints (uv (zigI 0).toNat)) ++ nb 4607182418800017408 64, ⟨1, 0, 4607182418800017408, 0, st0.w⟩) := rfl
    unfold packB allB
    simp only [h1]
    rw [show (zigI 0).toNat = 0 from rfl, uv0]
    show nb 1 16 ++ ((nb 0 8 ++ [] ++ nb 4607182418800017408 64) ++ []) = _
    decide +kernel
  unfold packL packI
  rw [h]
  have e : ∀ (n : Nat) (t : List Bool), pack (nb n 8 ++ t) = byte8 (nb n 8) :: pack t := fun n t => by
    rw [pack_append 1 _ _ (by rw [nb_length]), pack_short (nb n 8) (fun h => by have := congrArg List.length h; rw [nb_length] at this; cases this) (by rw [nb_length]; decide)]
    rfl
  have e0 : pack (nb 0 8) = [byte8 (nb 0 8)] := pack_short (nb 0 8) (by decide) (by decide)
  rw [e, e, e, e, e, e, e, e, e, e, e0]
  decide +kernel
theorem live08 : manometerlaw08_live.f = some true := by
  have o1 : ([⟨0, 4607182418800017408⟩] : List S39).all smpOkB = true := by decide
  have hs : smps [(⟨0, 4607182418800017408⟩ : S39)] = [(0, 4607182418800017408)] := rfl
  have hok : ∀ x ∈ [((0 : Int), (4607182418800017408 : Nat))], SmpOk x := fun x hx => by rw [List.mem_singleton.1 hx]; exact ⟨by decide, by decide⟩
  have hg : getL (packL [(0, 4607182418800017408)]) = .ok [(0, 4607182418800017408)] := get_back _ (by decide) hok
  have hgs : getS (packL [(0, 4607182418800017408)]) = (smpB [(0, 4607182418800017408)], 0) := by unfold getS; rw [hg]
  unfold manometerlaw08_live.f
  rw [put_ok [] rfl (by decide), put_ok _ o1 (by decide), hs]
  simp only [Option.bind_some]
  rw [get_ok _ (byts_pack _) (by rw [pack_one]; decide), hgs, show smps [] = [] from rfl, pack_two, pack_one, eq_ok _ _ (by decide) (by decide), eq_ok _ _ (by decide) (by decide)]
  rfl
end Go.Proofs.YtmllgglcdlcdhaaDoor.Pu
end
section
namespace Go.Proofs.YtmllgglcdlcdhaaDoor.PXL
open Go Go.RowKit Go.Proofs.YtmllgglcdlcdhaaDoor Go.Proofs.YtmllgglcdlcdhaaDoorW.PrintWords Go.Proofs.YtmllgglcdlcdhaaDoorW.PrintMore Go.Proofs.YtmllgglcdlcdhaaDoorW.PrintLast Bq Xs Go.Proofs.YtmllgglcdlcdhaaDoor.Pu
set_option linter.unusedVariables false
set_option maxRecDepth 100000
set_option linter.unusedSimpArgs false
attribute [local go_sem ↓] Go.wp_at_zero Go.wp_at_succ
theorem is_nil (w : World) : Calls Tryd.prog 42 #[.pointer none] w fun e w' => e = .returned (.bool false) ∧ w = w' := by
  go_enter Tryd.func42, Tryd.ntmps42
  go_wp2
  go_ret
  exact ⟨rfl, rfl⟩
theorem is_made (w : World) (g : Nat) (b : Bool) (v : Value) (hg : w.heap[g]? = some (.cells #[.bool b, v] 54 (0, 0))) :
    Calls Tryd.prog 42 #[.pointer (some ⟨g, 0, none⟩)] w fun e w' => e = .returned (.bool b) ∧ w = w' := by
  have h0 : w.cell? ⟨g, 0, none⟩ = some (.bool b) := (blk_cell hg 0).trans rfl
  go_enter Tryd.func42, Tryd.ntmps42
  go_wp2
  go_ret
  exact ⟨rfl, rfl⟩
def NotMade (w0 : World) (p : Option Addr) : Prop := ∀ W, Below w0.heap.size w0 W → Calls Tryd.prog 42 #[.pointer p] W fun e w' => e = .returned (.bool false) ∧ W = w'
theorem notMade_nil (w0 : World) : NotMade w0 none := fun W _ => is_nil W
theorem notMade_zero {w0 : World} {g : Nat} {v : Value} (hg : w0.heap[g]? = some (.cells #[.bool false, v] 54 (0, 0))) : NotMade w0 (some ⟨g, 0, none⟩) := fun W hW => is_made W g false v ((hW.block g (blk_lt hg)).trans hg)
theorem NotMade.step {w0 w1 : World} {p : Option Addr} (h : NotMade w0 p) (hB : Below w0.heap.size w0 w1) : NotMade w1 p := fun W hW => h W (hB.trans (below_lower hW hB.size))
set_option maxHeartbeats 1000000 in
theorem last_bad (w : World) (p : Option Addr) (h : NotMade w p) :
    Calls Tryd.prog 27 #[.pointer p] w fun e w' => e = .returned (.tuple #[.agg #[.int .i64 0, .int .u64 0], .bool false]) ∧ Below w.heap.size w w' := by
  obtain ⟨W1, hW1⟩ : ∃ W1, W1 = w.alloc (.cells #[.int .i64 0, .int .u64 0] 39) := ⟨_, rfl⟩
  obtain ⟨b, hb⟩ : ∃ b, b = w.heap.size := ⟨_, rfl⟩
  have hB : Below w.heap.size w W1 := by rw [hW1]; exact below_alloc (Below.refl _ _) _
  have hx : W1.heap[b]? = some (.cells #[.int .i64 0, .int .u64 0] 39 (0, 0)) := by rw [hW1, hb]; exact heap_alloc_new w _
  have HI := Lib.hid (h W1 hB)
  have HW := Lib.hid (And.intro hW1 hb)
  have HB := Lib.hid hB
  have HX := Lib.hid hx
  have z0 : W1.cell? ⟨b, 0, none⟩ = some (.int .i64 0) := (blk_cell hx 0).trans rfl
  have z1 : W1.cell? ⟨b, 1, none⟩ = some (.int .u64 0) := (blk_cell hx 1).trans rfl
  have f0 := blk_frozen hx 0
  have f1 := blk_frozen hx 1
  clear hW1 hb hB hx h
  go_enter Tryd.func27, Tryd.ntmps27
  go_upto_region 1 with fail
  rw [← HW.out.1, ← HW.out.2]
  go_wp2_with (go_at_call 42; refine HI.out.mono ?_; rintro e w' ⟨rfl, rfl⟩)
  refine bodyPost_ret (results_ct rfl _ _ b 39 #[.int .i64 0, .int .u64 0] (0, 0) _ rfl (blk_put (blk_put HX.out 0 _ rfl) 1 _ rfl) Tryd.underlying39 rfl (by kernel_rfl)) rfl ?_
  exact ⟨rfl, (HB.out.setCell (p := ⟨b, 0, none⟩) (Nat.le_of_eq HW.out.2.symm) _).setCell (p := ⟨b, 1, none⟩) (Nat.le_of_eq HW.out.2.symm) _⟩
set_option maxHeartbeats 1000000 in
theorem add_bad (w : World) (p : Option Addr) (h : NotMade w p) (t v : Int) :
    Calls Tryd.prog 22 #[.pointer p, .agg #[.int .i64 t, .int .u64 v]] w fun e w' => e = .returned (.int .i64 2) ∧ Below w.heap.size w w' := by
  obtain ⟨W1, hW1⟩ : ∃ W1, W1 = w.alloc (.cells #[.int .i64 t, .int .u64 v] 39) := ⟨_, rfl⟩
  have hB : Below w.heap.size w W1 := by rw [hW1]; exact below_alloc (Below.refl _ _) _
  have HI := Lib.hid (h W1 hB)
  have HW := Lib.hid hW1
  have HB := Lib.hid hB
  clear hW1 hB h
  go_enter Tryd.func22, Tryd.ntmps22
  go_upto_region 1 with fail
  rw [← HW.out]
  go_wp2_with (go_at_call 42; refine HI.out.mono ?_; rintro e w' ⟨rfl, rfl⟩)
  go_ret
  exact ⟨rfl, HB.out⟩
theorem count_bad (w : World) (p : Option Addr) (h : NotMade w p) :
    Calls Tryd.prog 26 #[.pointer p] w fun e w' => e = .returned (.int .i64 0) ∧ w = w' := by
  have HI := Lib.hid (h w (Below.refl _ _))
  clear h
  go_enter Tryd.func26, Tryd.ntmps26
  go_wp2_with (go_at_call 42; refine HI.out.mono ?_; rintro e w' ⟨rfl, rfl⟩)
  go_ret
  exact ⟨rfl, rfl⟩
theorem bytes_bad (w : World) (p : Option Addr) (h : NotMade w p) :
    Calls Tryd.prog 23 #[.pointer p] w fun e w' => e = .returned (.slice none 0 0) ∧ w = w' := by
  have HI := Lib.hid (h w (Below.refl _ _))
  clear h
  go_enter Tryd.func23, Tryd.ntmps23
  go_wp2_with (go_at_call 42; refine HI.out.mono ?_; rintro e w' ⟨rfl, rfl⟩)
  go_ret
  exact ⟨rfl, rfl⟩
theorem clone_bad (w : World) (p : Option Addr) (h : NotMade w p) :
    Calls Tryd.prog 25 #[.pointer p] w fun e w' => e = .returned (.pointer none) ∧ w = w' := by
  have HI := Lib.hid (h w (Below.refl _ _))
  clear h
  go_enter Tryd.func25, Tryd.ntmps25
  go_wp2_with (go_at_call 42; refine HI.out.mono ?_; rintro e w' ⟨rfl, rfl⟩)
  go_ret
  exact ⟨rfl, rfl⟩
set_option maxHeartbeats 2000000 in
theorem load_no (w : World) (A : Option Addr) (c : Nat) (xs : List Int) (hC : (Kd.int .u8).C w A xs.length xs) (hb : Byts xs) (hl : xs.length ≤ 10000) (hT : Tab w) (he : (getS xs).2 ≠ 0) :
    Calls Tryd.prog 24 #[.slice A xs.length c] w fun e w' => e = .returned (.tuple #[.pointer none, .int .i64 (getS xs).2]) ∧ Below w.heap.size w w' := by
  have HG := Lib.hid (xget_calls w A c xs hC hb hl hT)
  clear hC hb hT
  generalize getS xs = g at HG he ⊢
  obtain ⟨l, er⟩ := g
  simp only at HG he ⊢
  have hn : (er == 0) = false := beq_false_of_ne he
  have hn2 : (er != 0) = true := by simp [he]
  clear he
  go_enter Tryd.func24, Tryd.ntmps24
  go_wp2_with (go_at_call 16; go_loud (refine HG.out.mono ?_); rintro e w1 ⟨v1, rfl, hR1, hB1⟩; have HB1 := Lib.hid hB1; clear hR1 hB1)
  refine ⟨rfl, _, results_tmp2 rfl _ _ _, rfl, HB1.out⟩
set_option maxHeartbeats 2000000 in
theorem load_ok (w : World) (A : Option Addr) (c : Nat) (xs : List Int) (hC : (Kd.int .u8).C w A xs.length xs) (hb : Byts xs) (hl : xs.length ≤ 10000) (hT : Tab w) (he : (getS xs).2 = 0) :
    Calls Tryd.prog 24 #[.slice A xs.length c] w fun e w' => ∃ (g : Nat) (v : Value), e = .returned (.tuple #[.pointer (some ⟨g, 0, none⟩), .int .i64 0]) ∧ w'.heap[g]? = some (.cells #[.bool true, v] 54 (0, 0)) ∧ Kd.R k39 39 w' w.heap.size (fun k => k < g) v (getS xs).1 ∧ w.heap.size ≤ g ∧ Below w.heap.size w w' := by
  have HG := Lib.hid (xget_calls w A c xs hC hb hl hT)
  clear hC hb hT
  generalize getS xs = g at HG he ⊢
  obtain ⟨l, er⟩ := g
  simp only at HG he ⊢
  subst he
  go_enter Tryd.func24, Tryd.ntmps24
  go_wp2_with (go_at_call 16; go_loud (refine HG.out.mono ?_); rintro e w1 ⟨v1, rfl, hR1, hB1⟩; obtain ⟨A1, c1, hv1⟩ := Kd.R_slice hR1; obtain ⟨n1, hn1⟩ : ∃ n1, n1 = l.length := ⟨_, rfl⟩; rw [← hn1] at hv1; clear hn1; subst hv1; have HR1 := Lib.hid hR1; have HB1 := Lib.hid hB1; clear hR1 hB1)
  go_ret2
  have hB2 := below_alloc (Below.refl w1.heap.size w1) (.cells #[.bool true, .slice A1 n1 c1] 54)
  exact ⟨w1.heap.size, .slice A1 n1 c1, rfl, blk_new w1 _, Kd.R_below (Kd.R_mono (Kd.R_bound HR1.out) (fun k hk => hk.2.2.1)) hB2, HB1.out.size, HB1.out.trans (below_lower hB2 HB1.out.size)⟩
set_option maxHeartbeats 8000000 in
theorem xorNone_calls (w : World) (t v : Int) (A : Option Addr) (c : Nat) (xs : List Int) (hC : (Kd.int .u8).C w A xs.length xs) (hb : Byts xs) (hT : Tab w) :
    Calls Tryd.prog 10 #[.agg #[.int .i64 t, .int .u64 v], .slice A xs.length c] w fun e w' => e = .returned (.bool true) ∧ Below w.heap.size w w' := by
  have HL := Lib.hid (fun (W : World) (hW : Below w.heap.size w W) => manometerlaw08_live.calls true W ⟨Tab_below hT hW⟩ live08)
  have HC := Lib.hid (fun (W : World) (hW : Below w.heap.size w W) => Kd.C_below hC hW)
  have HT := Lib.hid (fun (W : World) (hW : Below w.heap.size w W) => Tab_below hT hW)
  have HY := Lib.hid hb
  clear hC hb hT
  obtain ⟨W1, hW1⟩ : ∃ W1, W1 = w.alloc (.cells #[.int .i64 t, .int .u64 v] 39) := ⟨_, rfl⟩
  obtain ⟨bs, hbs⟩ : ∃ bs, bs = w.heap.size := ⟨_, rfl⟩
  have hB1 : Below w.heap.size w W1 := by rw [hW1]; exact below_alloc (Below.refl _ _) _
  have hx1 : W1.heap[bs]? = some (.cells #[.int .i64 t, .int .u64 v] 39 (0, 0)) := by rw [hW1, hbs]; exact heap_alloc_new w _
  have HW := Lib.hid (And.intro hW1 hbs)
  have HB1 := Lib.hid hB1
  have HX1 := Lib.hid hx1
  clear hW1 hbs hB1 hx1
  by_cases h3 : 3000 < xs.length
  · have h3i : (xs.length : Int) > 3000 := by omega
    clear h3
    go_enter Tryd.func10, Tryd.ntmps10
    go_upto_region 1 with fail
    rw [← HW.out.1, ← HW.out.2]
    go_wp2_with fail
    refine (HL.out W1 HB1.out).mono ?_
    rintro e w2 ⟨rfl, hB2⟩
    have HB2 := Lib.hid (HB1.out.trans (below_lower hB2 HB1.out.size))
    clear hB2
    go_wp2_with fail
    refine (HL.out w2 HB2.out).mono ?_
    rintro e w3 ⟨rfl, hB3⟩
    have HB3 := Lib.hid (HB2.out.trans (below_lower hB3 HB2.out.size))
    clear hB3
    go_wp2_with fail
    go_ret
    exact ⟨rfl, HB3.out⟩
  · have h3i : ¬ (xs.length : Int) > 3000 := by omega
    have hle : xs.length ≤ 10000 := by omega
    clear h3
    go_enter Tryd.func10, Tryd.ntmps10
    go_upto_region 1 with fail
    rw [← HW.out.1, ← HW.out.2]
    go_upto_region 5 with (go_at_call 11; refine (HL.out W1 HB1.out).mono ?_; rintro e w2 ⟨rfl, hB2⟩; have HX2 := Lib.hid ((hB2.block bs (blk_lt HX1.out)).trans HX1.out); have HB2 := Lib.hid (HB1.out.trans (below_lower hB2 HB1.out.size)); clear hB2)
    obtain ⟨W3, hW3⟩ : ∃ W3, W3 = w2.alloc (.cells #[.bool false, .slice none 0 0] 54) := ⟨_, rfl⟩
    obtain ⟨bz, hbz⟩ : ∃ bz, bz = w2.heap.size := ⟨_, rfl⟩
    have hB3 : Below w2.heap.size w2 W3 := by rw [hW3]; exact below_alloc (Below.refl _ _) _
    have hz3 : W3.heap[bz]? = some (.cells #[.bool false, .slice none 0 0] 54 (0, 0)) := by rw [hW3, hbz]; exact heap_alloc_new w2 _
    have HX3 := Lib.hid ((hB3.block bs (blk_lt HX2.out)).trans HX2.out)
    have HB3 := Lib.hid (HB2.out.trans (below_lower hB3 HB2.out.size))
    have NZ := Lib.hid (notMade_zero hz3)
    have NN := Lib.hid (notMade_nil W3)
    rw [← hW3, ← hbz]
    clear hW3 hbz hB3 hz3 HX2 HB2
    go_wp2_with fail
    refine (last_bad W3 none NN.out).mono ?_
    rintro e w4 ⟨rfl, hB4⟩
    have HB4 := Lib.hid hB4
    clear hB4
    go_upto_region 6 with fail
    obtain ⟨w5, hw5⟩ : ∃ w5, w5 = w4.alloc (.cells #[.int .i64 0, .int .u64 0] 39) := ⟨_, rfl⟩
    have HB5 : Hid (Below W3.heap.size W3 w5) := Lib.hid (by rw [hw5]; exact HB4.out.trans (below_lower (below_alloc (Below.refl _ _) _) HB4.out.size))
    rw [← hw5]
    clear hw5
    go_wp2_with fail
    refine (last_bad w5 (some ⟨bz, 0, none⟩) (NZ.out.step HB5.out)).mono ?_
    rintro e w6 ⟨rfl, hB6⟩
    have HB6 := Lib.hid (HB5.out.trans (below_lower hB6 HB5.out.size))
    clear hB6
    go_upto_region 7 with fail
    obtain ⟨w7, hw7⟩ : ∃ w7, w7 = w6.alloc (.cells #[.int .i64 0, .int .u64 0] 39) := ⟨_, rfl⟩
    have HB7 : Hid (Below W3.heap.size W3 w7) := Lib.hid (by rw [hw7]; exact HB6.out.trans (below_lower (below_alloc (Below.refl _ _) _) HB6.out.size))
    rw [← hw7]
    clear hw7
    have HB07 := Lib.hid (HB3.out.trans (below_lower HB7.out HB3.out.size))
    obtain ⟨er, her⟩ : ∃ er, er = (getS xs).2 := ⟨_, rfl⟩
    have HER := Lib.hid her
    clear her
    by_cases he : er = 0
    · subst he
      go_wp2_with fail
      go_loud (refine (load_ok w7 A c xs (HC.out w7 HB07.out) HY.out hle (HT.out w7 HB07.out) HER.out.symm).mono ?_)
      rintro e w8 ⟨pg, pv, rfl, _, _, _, hB8⟩
      have HB8 := Lib.hid (HB7.out.trans (below_lower hB8 HB7.out.size))
      have HB08 := Lib.hid (HB3.out.trans (below_lower HB8.out HB3.out.size))
      clear hB8
      go_wp2_with fail
      go_loud (refine (rget08 w8 A c xs (HC.out w8 HB08.out) HY.out hle).mono ?_)
      rintro e w9 ⟨v9, rfl, _, hB9⟩
      rw [← HER.out]
      have HB9 := Lib.hid (HB8.out.trans (below_lower hB9 HB8.out.size))
      have hx9 := (HB9.out.block bs (blk_lt HX3.out)).trans HX3.out
      have HX9 := Lib.hid hx9
      have c90 : w9.cell? ⟨bs, 0, none⟩ = some (.int .i64 t) := (blk_cell hx9 0).trans rfl
      have c91 : w9.cell? ⟨bs, 1, none⟩ = some (.int .u64 v) := (blk_cell hx9 1).trans rfl
      clear hB9 hx9
      go_wp2_with fail
      go_loud (refine (add_bad w9 none (NN.out.step HB9.out) t v).mono ?_)
      rintro e w10 ⟨rfl, hB10⟩
      have HB10 := Lib.hid (HB9.out.trans (below_lower hB10 HB9.out.size))
      have hx10 := (hB10.block bs (blk_lt HX9.out)).trans HX9.out
      have ca0 : w10.cell? ⟨bs, 0, none⟩ = some (.int .i64 t) := (blk_cell hx10 0).trans rfl
      have ca1 : w10.cell? ⟨bs, 1, none⟩ = some (.int .u64 v) := (blk_cell hx10 1).trans rfl
      clear hB10 hx10
      go_wp2_with fail
      go_loud (refine (add_bad w10 (some ⟨bz, 0, none⟩) (NZ.out.step HB10.out) t v).mono ?_)
      rintro e w11 ⟨rfl, hB11⟩
      have HB11 := Lib.hid (HB10.out.trans (below_lower hB11 HB10.out.size))
      clear hB11
      go_wp2_with fail
      go_loud (refine (count_bad w11 none (NN.out.step HB11.out)).mono ?_)
      rintro e w' ⟨rfl, rfl⟩
      go_wp2_with fail
      go_loud (refine (count_bad w11 (some ⟨bz, 0, none⟩) (NZ.out.step HB11.out)).mono ?_)
      rintro e w' ⟨rfl, rfl⟩
      go_wp2_with fail
      go_loud (refine (bytes_bad w11 none (NN.out.step HB11.out)).mono ?_)
      rintro e w' ⟨rfl, rfl⟩
      go_wp2_with fail
      go_loud (refine (bytes_bad w11 (some ⟨bz, 0, none⟩) (NZ.out.step HB11.out)).mono ?_)
      rintro e w' ⟨rfl, rfl⟩
      go_wp2_with fail
      go_loud (refine (clone_bad w11 none (NN.out.step HB11.out)).mono ?_)
      rintro e w' ⟨rfl, rfl⟩
      go_wp2_with fail
      go_loud (refine (clone_bad w11 (some ⟨bz, 0, none⟩) (NZ.out.step HB11.out)).mono ?_)
      rintro e w' ⟨rfl, rfl⟩
      go_wp2_with fail
      go_ret
      exact ⟨rfl, HB3.out.trans (below_lower HB11.out HB3.out.size)⟩
    · have hne : (er == 0) = false := beq_false_of_ne he
      have hne2 : (er != 0) = true := by simp [he]
      have HNE := Lib.hid he
      clear he
      go_wp2_with fail
      go_loud (refine (load_no w7 A c xs (HC.out w7 HB07.out) HY.out hle (HT.out w7 HB07.out) (by rw [← HER.out]; exact HNE.out)).mono ?_)
      rintro e w8 ⟨rfl, hB8⟩
      rw [← HER.out]
      have HB8 := Lib.hid (HB7.out.trans (below_lower hB8 HB7.out.size))
      have HB08 := Lib.hid (HB3.out.trans (below_lower HB8.out HB3.out.size))
      clear hB8
      go_wp2_with fail
      go_loud (refine (rget08 w8 A c xs (HC.out w8 HB08.out) HY.out hle).mono ?_)
      rintro e w9 ⟨v9, rfl, _, hB9⟩
      rw [← HER.out]
      have HB9 := Lib.hid (HB8.out.trans (below_lower hB9 HB8.out.size))
      have hx9 := (HB9.out.block bs (blk_lt HX3.out)).trans HX3.out
      have HX9 := Lib.hid hx9
      have c90 : w9.cell? ⟨bs, 0, none⟩ = some (.int .i64 t) := (blk_cell hx9 0).trans rfl
      have c91 : w9.cell? ⟨bs, 1, none⟩ = some (.int .u64 v) := (blk_cell hx9 1).trans rfl
      clear hB9 hx9
      go_wp2_with fail
      go_loud (refine (add_bad w9 none (NN.out.step HB9.out) t v).mono ?_)
      rintro e w10 ⟨rfl, hB10⟩
      have HB10 := Lib.hid (HB9.out.trans (below_lower hB10 HB9.out.size))
      have hx10 := (hB10.block bs (blk_lt HX9.out)).trans HX9.out
      have ca0 : w10.cell? ⟨bs, 0, none⟩ = some (.int .i64 t) := (blk_cell hx10 0).trans rfl
      have ca1 : w10.cell? ⟨bs, 1, none⟩ = some (.int .u64 v) := (blk_cell hx10 1).trans rfl
      clear hB10 hx10
      go_wp2_with fail
      go_loud (refine (add_bad w10 (some ⟨bz, 0, none⟩) (NZ.out.step HB10.out) t v).mono ?_)
      rintro e w11 ⟨rfl, hB11⟩
      have HB11 := Lib.hid (HB10.out.trans (below_lower hB11 HB10.out.size))
      clear hB11
      go_wp2_with fail
      go_loud (refine (count_bad w11 none (NN.out.step HB11.out)).mono ?_)
      rintro e w' ⟨rfl, rfl⟩
      go_wp2_with fail
      go_loud (refine (count_bad w11 (some ⟨bz, 0, none⟩) (NZ.out.step HB11.out)).mono ?_)
      rintro e w' ⟨rfl, rfl⟩
      go_wp2_with fail
      go_loud (refine (bytes_bad w11 none (NN.out.step HB11.out)).mono ?_)
      rintro e w' ⟨rfl, rfl⟩
      go_wp2_with fail
      go_loud (refine (bytes_bad w11 (some ⟨bz, 0, none⟩) (NZ.out.step HB11.out)).mono ?_)
      rintro e w' ⟨rfl, rfl⟩
      go_wp2_with fail
      go_loud (refine (clone_bad w11 none (NN.out.step HB11.out)).mono ?_)
      rintro e w' ⟨rfl, rfl⟩
      go_wp2_with fail
      go_loud (refine (clone_bad w11 (some ⟨bz, 0, none⟩) (NZ.out.step HB11.out)).mono ?_)
      rintro e w' ⟨rfl, rfl⟩
      go_wp2_with fail
      go_ret
      exact ⟨rfl, HB3.out.trans (below_lower HB11.out HB3.out.size)⟩
end Go.Proofs.YtmllgglcdlcdhaaDoor.PXL
end
section
namespace Go.Proofs.YtmllgglcdlcdhaaDoor
open Go.RowKit Go.Proofs.YtmllgglcdlcdhaaDoorW.PrintWords Go.Proofs.YtmllgglcdlcdhaaDoorW.PrintMore Go.Proofs.YtmllgglcdlcdhaaDoorW.PrintLast Go.Deep
set_option linter.unusedVariables false
section
variable {H : Type} {enc : TypeId × Value → H} {P : Program} {w : World} {base : Nat} {spare : Nat → Bool} {held : Bool}
theorem opens_iso {α β : Type} {d : Kd α} {wf : α → Prop} {t : TypeId} (f : β → α) (g : α → β) (hg : ∀ y, f (g y) = y) (h : Opens enc P w base spare held t d wf) :
    Opens enc P w base spare held t (Kd.iso d f) (fun x => wf (f x)) := by
  intro fuel cs x hx
  obtain ⟨a, hK, hw⟩ := h fuel cs x hx
  refine ⟨g a, ?_, ?_⟩
  · show d.K w (f (g a)) cs
    rw [hg]
    exact hK
  · show wf (f (g a))
    rw [hg]
    exact hw
theorem opens_val {α : Type} {d : Kd α} {wf : α → Prop} {t : TypeId} {cs : Array Value} {x : DataW H} {ps : List MemPlace} (h : Opens enc P w base spare held t d wf)
    (hT : DataW.Trod enc P w base spare held t (.agg cs) x ps) : ∃ a, d.K w a cs.toList ∧ wf a := by
  obtain ⟨fuel, hf⟩ := hT
  exact h fuel _ _ hf
end
end Go.Proofs.YtmllgglcdlcdhaaDoor
end
section
namespace Go.Proofs.YtmllgglcdlcdhaaDoor
open Go.RowKit
set_option linter.unusedVariables false
theorem table_reads {P : Program} {w : World} {name : String} {g n : Nat} {t e : TypeId} {k : IntKind} {zs : List Int} (h : Lib.VarReads P w name (.agg (zs.map fun z => .lit (.int k z)))) (hg : P.globalNamed name = some g) (ht : (P.globals[g]?).map (·.type) = some t)
    (ha : P.underlying t = some (.array n e)) (he : P.underlying e = some (.int k)) (hc : P.cellsOf e = 1) : ∀ i, i < n → w.cell? ⟨g, i, none⟩ = some (.int k (zs.getD i 0)) := by
  obtain ⟨g', t', cs, fuel, p, h1, h2, h3, h4⟩ := h
  obtain rfl := Option.some.inj (hg.symm.trans h1)
  obtain rfl := Option.some.inj (ht.symm.trans h2)
  intro i hi
  obtain ⟨f2, d, q, hd, htr⟩ := Lib.array_elem ha h4 i hi
  obtain ⟨z, hz, hx, _⟩ := DataW.trod_int he htr
  rw [List.getElem?_map] at hd
  obtain ⟨z', hz', hzd⟩ := Option.map_eq_some_iff.1 hd
  have hzz : z' = z := by
    have h5 : d = .lit (.int k z) := congrArg Prod.fst hx
    rw [h5] at hzd
    injection hzd with h6
    injection h6
  subst hzz
  rw [hc, Nat.mul_one] at hz
  have h7 : cs.toList[i]? = some (.int k z') := by
    have := congrArg (·[0]?) hz
    simpa [List.getElem?_take, List.getElem?_drop] using this
  have h8 := World.var?_cell h1 h3 i
  rw [h8, List.getD_eq_getElem?_getD, hz']
  simpa using h7
theorem laid_plain {P : Program} {w : World} {l : List (String × DataW Unit)} (h : laidMetH P l w) (hf : (l.filter fun x => x.2.handleName?.isSome).isEmpty = true) : laidMet P l w := by
  unfold laidMetH at h
  split at h
  · exact h
  · rename_i h2
    rw [h2] at hf
    cases hf
end Go.Proofs.YtmllgglcdlcdhaaDoor
end
section
namespace Go.Proofs.YtmllgglcdlcdhaaDoor
open Go Go.RowKit
set_option linter.unusedVariables false
set_option maxRecDepth 100000
theorem tab_of {w : World} (h : laidMetH Tryd.prog [("math/bits.deBruijn64tab", Rows.laid_math_bits_deBruijn64tab)] w) : Tab w := by
  intro j hj
  have hr := Lib.laidMet.reads (laid_plain h (by kernel_rfl)) (List.Mem.head _)
  have h := table_reads (zs := Lib.deBruijn64tab.map Int.ofNat) (show Lib.VarReads _ w _ (.agg ((Lib.deBruijn64tab.map Int.ofNat).map fun z => .lit (.int .u8 z))) from hr) (g := 0) (by kernel_rfl) (by kernel_rfl) Tryd.underlying113 Tryd.underlying5 (by kernel_rfl) j hj
  rw [h, List.getD_eq_getElem?_getD, List.getD_eq_getElem?_getD, List.getElem?_map, List.getElem?_eq_getElem hj]
  rfl
end Go.Proofs.YtmllgglcdlcdhaaDoor
end
