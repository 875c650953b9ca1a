import Derived.Test.YtmllgglcdlcdhaaDoorCXorGetsYA
import Derived.Test.YtmllgglcdlcdhaaDoorCXorGetsPXLx2
import Derived.Test.YtmllgglcdlcdhaaDoorCXorGetsS6
import Derived.Test.YtmllgglcdlcdhaaDoorCXorGetsYG
import Derived.Test.YtmllgglcdlcdhaaDoorCXorGetsYI
import Derived.Test.YtmllgglcdlcdhaaDoorCXorGetsPU0
namespace Go.Proofs.YtmllgglcdlcdhaaDoor.Bq
end Go.Proofs.YtmllgglcdlcdhaaDoor.Bq
section
namespace Go.Proofs.YtmllgglcdlcdhaaDoor.PXL
open Go.RowKit Go.Proofs.YtmllgglcdlcdhaaDoorW.PrintWords Go.Proofs.YtmllgglcdlcdhaaDoorW.PrintLast Go.Proofs.YtmllgglcdlcdhaaDoorW.PrintMore
attribute [local go_sem] max2_int min2_int max_two min_two max_three min_three max_four min_four
set_option linter.unusedVariables false
set_option linter.unusedSimpArgs false
def manometerref01_Join.l0 : Nat → List Int → List (List Int) → Int → Int → Option (List Int)
 | 0, _, _, _, _ => none
 | k + 1, x3, x7, x8, x9 => if x9 < x8 then (if 0 ≤ x9 then (if x9 < (x7.length : Int) then (if x3.length + (rd_L5 x7 x9).length < 140737488355328 then (manometerref01_Join.l0 k (x3 ++ (rd_L5 x7 x9)) x7 x8 (wrap64 (x9 + 1))) else (none)) else (none)) else (none)) else (some x3)
def manometerref01_Join.f (k : Nat) (l0 : List (List Int)) : Option (List Int) := manometerref01_Join.l0 k (([] : List Int)) l0 (l0.length : Int) 0
set_option maxHeartbeats 8000000 in
set_option maxRecDepth 100000 in
theorem manometerref01_Join.calls (k : Nat) (A0 : Option Addr) (c0 : Nat) (l0 : List (List Int)) (r : List Int) (w : World) (hr0 : Kd.C (Kd.slice 5 (Kd.int .u8)) w A0 l0.length l0) (hc0 : l0.length ≤ c0) (h : manometerref01_Join.f k l0 = some r) :
  Calls Tryd.prog 15 #[.slice A0 l0.length c0] w fun e w' => ∃ v0_ : Value, e = .returned (v0_) ∧ Kd.R (Kd.int .u8) 5 w' w.heap.size (fun _ => True) v0_ r ∧ Below w.heap.size w w' := by
 have HR0 := Aside0.mk hr0
 have HC0 := Aside0.mk hc0
 clear hr0 hc0
 have HB := Aside0.mk (Below.refl w.heap.size w)
 have H : (manometerref01_Join.l0 k (([] : List Int)) l0 (l0.length : Int) 0) = some r := h
 clear h
 obtain ⟨y158, hy158⟩ : ∃ y_ : List Int, y_ = (([] : List Int)) := ⟨_, rfl⟩
 replace H : (manometerref01_Join.l0 k y158 l0 (l0.length : Int) 0) = some r := by first | (rw [hy158]; with_reducible exact H) | (have H2_ := (Option.bind_some _ _).symm.trans H; rw [hy158]; with_reducible exact H2_) | (have H2_ := (Option.bind_some _ _).symm.trans H; with_reducible exact H2_) | with_reducible exact H | (rw [hy158]; exact H) | exact H
 have Ny158 := Aside0.mk hy158
 clear hy158
 have H' := Aside0.mk H
 clear H
 go_enter Tryd.func15, Tryd.ntmps15
 go_wp2_with (first | ((with_reducible refine gate_dst (N := 6) rfl ?_); refine Kd.R_lit (Kd.int .u8) _ 5 ?hg (N := 6) ?hd (xs := ([] : List Int)) (inner := []) (ok := fun _ => True) (okp := fun _ => True) ?hr ?hp (fun _ hk => hk) trivial (Below.refl _ _) (Nat.le_refl _) (by simp) ?_; (case hd => rfl); (case hg => rfl); (case hr => first | (go_simp; done) | (go_simp; rfl)); (case hp => exact (Reps.none _ _)); intro v159 w2 ho3 hb hg_ hnew_; clear hg_ hnew_; (first | rw [← Ny158.out] at ho3 | (simp only [Int.reduceToNat] at ho3; rw [← Ny158.out] at ho3)); have n0_ := Aside0.mk (Kd.R_lower ho3 (below_size y1_)); have n1_ := Aside0.mk (below_step y1_ hb); clear HB; have HO160 := n0_; have HB := n1_; clear n0_ n1_; clear hb ho3))
 go_loopg [3, 9] k (fun kq v3 v9 w' => ∃ (x3_1 : List Int) (x9_1 : Int), v9 = .int .i64 x9_1 ∧ Aside0 (manometerref01_Join.l0 kq x3_1 l0 (l0.length : Int) x9_1 = some r) ∧ Aside0 (kq ≤ k) ∧ Aside0 (Kd.R (Kd.int .u8) 5 w' w.heap.size (fun _ => True) v3 x3_1) ∧ Aside0 (Below w.heap.size w w'))
 case atStart => exact ⟨(y158), (0), y11_, H', ⟨Nat.le_refl _⟩, ⟨by (with_reducible repeat (first | apply Kd.R_alloc | apply Kd.R_drewN | apply Kd.R_drew)); exact HO160.out⟩, ⟨y1_⟩⟩
 case round =>
  clear H'
  try clear c1
  try clear p2
  obtain ⟨x3_1, x9_1, rfl, HA, HK1, HO_3, HB⟩ := hrel
  cases gk with
  | zero => exact absurd HA.out (by simp [manometerref01_Join.l0])
  | succ k1 =>
   have H := HA.out
   clear HA
   simp only [manometerref01_Join.l0] at H
   by_cases c4 : x9_1 < (l0.length : Int)
   ·rw [if_pos c4] at H
    have c4b0 : decide (x9_1 < (l0.length : Int)) = true := decide_eq_true c4
    clear c4
    by_cases c5 : 0 ≤ x9_1
    ·rw [if_pos c5] at H
     have c5b0 : decide (0 ≤ x9_1) = true := decide_eq_true c5
     clear c5
     by_cases c6 : x9_1 < (l0.length : Int)
     ·rw [if_pos c6] at H
      have c6b0 : decide (x9_1 < (l0.length : Int)) = true := decide_eq_true c6
      clear c6
      by_cases c7 : x3_1.length + (rd_L5 l0 x9_1).length < 140737488355328
      ·rw [if_pos c7] at H
       have LMc7 := Aside0.mk c7
       clear c7
       obtain ⟨y162, hy162⟩ : ∃ y_ : List Int, y_ = (x3_1 ++ (rd_L5 l0 x9_1)) := ⟨_, rfl⟩
       replace H : (manometerref01_Join.l0 k1 y162 l0 (l0.length : Int) (wrap64 (x9_1 + 1))) = some r := by first | (rw [hy162]; with_reducible exact H) | (have H2_ := (Option.bind_some _ _).symm.trans H; rw [hy162]; with_reducible exact H2_) | (have H2_ := (Option.bind_some _ _).symm.trans H; with_reducible exact H2_) | with_reducible exact H | (rw [hy162]; exact H) | exact H
       have Ny162 := Aside0.mk hy162
       clear hy162
       have H' := Aside0.mk H
       clear H
       have p161 : 0 ≤ (x9_1 : Int) := of_decide_eq_true y14_
       have q161 : x9_1 < (l0.length : Int) := of_decide_eq_true y14_
       obtain ⟨ad161, A161_0, c161_0, e161, hx161_0, hl161_0, hi161_0⟩ := at_L5 HR0.out x9_1 p161 q161
       cases e161
       replace hx161_0 := (HB.out.cell (World.block_lt_of_cell? w _ hx161_0)).trans hx161_0
       have HR161_0 := Aside0.mk hi161_0
       have HC161_0 := Aside0.mk hl161_0
       clear hi161_0 hl161_0
       replace p161 := eq_true p161
       replace q161 := eq_true q161
       go_wp2_with (first | ((with_reducible refine gate_builtin (b := .append) (xs := #[.tmp 13, .tmp 14]) rfl ?_); at_builtin; refine Kd.R_append_rows (Kd.int .u8) (w0 := w) w.heap.size rfl (.tmp 13) (.tmp 14) 24 5 (.int .u8 0) 1 rfl Tryd.underlying24 info5 rfl (by decide) (by omega) u3 x3_1 (rd_L5 l0 x9_1) _ _ _ (fun _ => True) (fun _ => False) rfl rfl ?aO ?aR (fun _ _ h => h) (fun _ h => h.elim) ?aF ?aB ?aS ?aL ?_; (case aR => repeat (first | exact (Kd.C_below HR161_0.out HB.out) | (with_reducible refine Kd.C_alloc ?_ _) | (with_reducible refine Kd.C_drewN ?_ _) | (with_reducible refine Kd.C_drew ?_))); (case aB => exact y1_); (case aF => exact (fun _ _ => trivial)); (case aO => exact (by (with_reducible repeat (first | apply Kd.R_alloc | apply Kd.R_drewN | apply Kd.R_drew)); exact HO_3.out)); (case aS => exact (below_size y1_)); (case aL => have := LMc7.out; omega); intro v163 w8 ho hb hg hat; rw [← Ny162.out] at ho; have n0_ := Aside0.mk (hb); have n1_ := Aside0.mk (ho); clear HB; clear HO_3; have HB := n0_; have HO164 := n1_; clear n0_ n1_; clear ho hb hg hat))
       go_roundg k1
       case measure => have := HK1.out; omega
       case rel => exact ⟨(y162), (wrap64 (x9_1 + 1)), y11_, H', ⟨by have := HK1.out; omega⟩, ⟨by (with_reducible repeat (first | apply Kd.R_alloc | apply Kd.R_drewN | apply Kd.R_drew)); exact HO164.out⟩, ⟨y1_⟩⟩
      ·rw [if_neg c7] at H
       exact absurd H (by simp)
     ·rw [if_neg c6] at H
      exact absurd H (by simp)
    ·rw [if_neg c5] at H
     exact absurd H (by simp)
   ·rw [if_neg c4] at H
    have c4b0 : decide (x9_1 < (l0.length : Int)) = false := decide_eq_false c4
    clear c4
    obtain rfl := Option.some.inj H
    go_wp2
    go_ret
    exact ⟨_, y7_, by (with_reducible repeat (first | apply Kd.R_alloc | apply Kd.R_drewN | apply Kd.R_drew)); exact HO_3.out, y1_⟩
end Go.Proofs.YtmllgglcdlcdhaaDoor.PXL
end
section
namespace Go.Proofs.YtmllgglcdlcdhaaDoor.Pu
open Go Go.RowKit Go.Proofs.YtmllgglcdlcdhaaDoor Go.Proofs.YtmllgglcdlcdhaaDoor.PXL Go.Proofs.YtmllgglcdlcdhaaDoorW.PrintWords Go.Proofs.YtmllgglcdlcdhaaDoorW.PrintLast Go.Proofs.YtmllgglcdlcdhaaDoorW.PrintMore Bq Xs
set_option linter.unusedVariables false
set_option linter.unusedSimpArgs false
theorem put_ok (l : List S39) (h : l.all smpOkB = true) (hl : l.length ≤ 50000) : xor_Put.f l = some (packL (smps l), 0) := by
  unfold xor_Put.f
  rw [if_neg (by omega), if_pos hl, if_pos h]
theorem bytB (b : List Int) (hb : Byts b) : b.all (fun x => decide (0 ≤ x ∧ x < 256)) = true := List.all_eq_true.2 fun x hx => decide_eq_true (hb x hx)
theorem get_ok (b : List Int) (hb : Byts b) (hl : b.length ≤ 10000) : xor_Get.f b = some (getS b) := by
  unfold xor_Get.f
  rw [if_pos hl, if_pos (bytB b hb)]
theorem eq_ok (a b : List Int) (ha : a.length ≤ 1000000000) (hb : b.length ≤ 1000000000) : manometerref01_Equal.f a b = some (decide (a = b)) := by
  unfold manometerref01_Equal.f
  rw [if_pos (by omega), if_pos (by omega)]
theorem byts_pack (L : List (Int × Nat)) : Byts (packL L) := byts_packI _
theorem pack_nb16 : pack (nb 0 16) = [0, 0] := by
  rw [show nb 0 16 = nb 0 8 ++ nb 0 8 from rfl, pack_append 1 _ _ (by rw [nb_length]), pack_short (nb 0 8) (by decide) (by decide)]
  rfl
theorem pack_two : packL [] = [0, 0] := by
  have h : packB [] = nb 0 16 := by unfold packB allB; rw [List.append_nil]; rfl
  unfold packL packI
  rw [h, pack_nb16]
  rfl
theorem uv0 : uv 0 = [0] := uv_small 0 (by decide)
theorem pack_one : packL [(0, 4607182418800017408)] = [0, 1, 0, 63, 240, 0, 0, 0, 0, 0, 0] := by
  have h : packB [(0, 4607182418800017408)] = nb 0 8 ++ (nb 1 8 ++ (nb 0 8 ++ (nb 63 8 ++ (nb 240 8 ++ (nb 0 8 ++ (nb 0 8 ++ (nb 0 8 ++ (nb 0 8 ++ (nb 0 8 ++ nb 0 8))))))))) := by
    have h1 : addB st0 0 4607182418800017408 = (bytesB (ints (uv (zigI 0).toNat)) ++ nb 4607182418800017408 64, ⟨1, 0, 4607182418800017408, 0, st0.w⟩) := rfl
    unfold packB allB
    simp only [h1]
    rw [show (zigI 0).toNat = 0 from rfl, uv0]
    show nb 1 16 ++ ((nb 0 8 ++ [] ++ nb 4607182418800017408 64) ++ []) = _
    decide +kernel
  unfold packL packI
  rw [h]
  have e : ∀ (n : Nat) (t : List Bool), pack (nb n 8 ++ t) = byte8 (nb n 8) :: pack t := fun n t => by
    rw [pack_append 1 _ _ (by rw [nb_length]), pack_short (nb n 8) (fun h => by have := congrArg List.length h; rw [nb_length] at this; cases this) (by rw [nb_length]; decide)]
    rfl
  have e0 : pack (nb 0 8) = [byte8 (nb 0 8)] := pack_short (nb 0 8) (by decide) (by decide)
  rw [e, e, e, e, e, e, e, e, e, e, e0]
  decide +kernel
theorem live08 : manometerlaw08_live.f = some true := by
  have o1 : ([⟨0, 4607182418800017408⟩] : List S39).all smpOkB = true := by decide
  have hs : smps [(⟨0, 4607182418800017408⟩ : S39)] = [(0, 4607182418800017408)] := rfl
  have hok : ∀ x ∈ [((0 : Int), (4607182418800017408 : Nat))], SmpOk x := fun x hx => by rw [List.mem_singleton.1 hx]; exact ⟨by decide, by decide⟩
  have hg : getL (packL [(0, 4607182418800017408)]) = .ok [(0, 4607182418800017408)] := get_back _ (by decide) hok
  have hgs : getS (packL [(0, 4607182418800017408)]) = (smpB [(0, 4607182418800017408)], 0) := by unfold getS; rw [hg]
  unfold manometerlaw08_live.f
  rw [put_ok [] rfl (by decide), put_ok _ o1 (by decide), hs]
  simp only [Option.bind_some]
  rw [get_ok _ (byts_pack _) (by rw [pack_one]; decide), hgs, show smps [] = [] from rfl, pack_two, pack_one, eq_ok _ _ (by decide) (by decide), eq_ok _ _ (by decide) (by decide)]
  rfl
theorem same_l0 (l : List S39) (hl : l.length ≤ 1000000) : ∀ (d n : Nat), n + d = l.length → Ev (fun k => manometerlaw08_same.l0 k l l (l.length : Int) (n : Int)) true
  | 0, n, h => by
    refine Ev.step (f := _) (fun k => by simp only [manometerlaw08_same.l0]; rfl) ?_
    simp only [if_neg (show ¬ (n : Int) < (l.length : Int) by omega)]
    exact Ev.at 0 (fun k hk => rfl)
  | d + 1, n, h => by
    have ih := same_l0 l hl d (n + 1) (by omega)
    refine Ev.step (f := _) (fun k => by simp only [manometerlaw08_same.l0]; rfl) ?_
    simp only [if_pos (show (n : Int) < (l.length : Int) by omega), if_pos (show (0 : Int) ≤ (n : Int) by omega), beq_self_eq_true, Bool.not_true, Bool.or_self, w1 n (by omega)]
    exact ih
theorem same_self (l : List S39) (hl : l.length ≤ 1000000) : Ev (fun k => manometerlaw08_same.f k l l) true := by
  have := same_l0 l hl l.length 0 (by omega)
  simpa [manometerlaw08_same.f] using this
theorem getL_ok {b : List Int} {l : List (Int × Nat)} (h : getL b = .ok l) : (∀ x ∈ l, SmpOk x) ∧ l.length ≤ 4 * b.length := by
  unfold getL at h
  cases hu : unpackR (bitsOf b (8 * b.length)) with
  | error e => rw [hu] at h; cases h
  | ok v =>
    obtain ⟨l2, r⟩ := v
    rw [hu] at h
    simp only at h
    obtain ⟨u1, u2, u3⟩ := unpackR_ok hu
    rw [bitsOf_length] at u3
    split at h
    · injection h with h
      subst h
      exact ⟨u2, by omega⟩
    · cases h
end Go.Proofs.YtmllgglcdlcdhaaDoor.Pu
end
section
namespace Go.Proofs.YtmllgglcdlcdhaaDoor.Pu
open Go Go.RowKit Go.Proofs.YtmllgglcdlcdhaaDoor Go.Proofs.YtmllgglcdlcdhaaDoor.PXL Go.Proofs.YtmllgglcdlcdhaaDoorW.PrintWords Go.Proofs.YtmllgglcdlcdhaaDoorW.PrintLast Go.Proofs.YtmllgglcdlcdhaaDoorW.PrintMore Bq Xs
set_option linter.unusedVariables false
set_option linter.unusedSimpArgs false
theorem rdL (l : List (List Int)) (n : Nat) : rd_L5 l (n : Int) = l.getD n [] := by unfold rd_L5; rw [Int.toNat_natCast]
theorem Join_l0 (ps : List (List Int)) (hp : ps.length ≤ 1000000) : ∀ (d n : Nat) (acc : List Int), n + d = ps.length → acc.length + (ps.drop n).flatten.length ≤ 100000000000 → Ev (fun k => manometerref01_Join.l0 k acc ps (ps.length : Int) (n : Int)) (acc ++ (ps.drop n).flatten)
  | d, n, acc, hd, hl => by
    refine Ev.step (f := _) (fun k => by simp only [manometerref01_Join.l0]; rfl) ?_
    by_cases hlt : n < ps.length
    · obtain ⟨d, rfl⟩ : ∃ e, d = e + 1 := ⟨d - 1, by omega⟩
      have e1 : (n : Int) < (ps.length : Int) := by omega
      have e2 : (0 : Int) ≤ (n : Int) := by omega
      have e3 : ps.drop n = ps.getD n [] :: ps.drop (n + 1) := by
        rw [List.drop_eq_getElem_cons hlt, List.getD_eq_getElem?_getD, List.getElem?_eq_getElem hlt]
        rfl
      rw [e3, List.flatten_cons, List.length_append] at hl
      have e4 : acc.length + (ps.getD n []).length < 140737488355328 := by omega
      simp only [if_pos e1, if_pos e2, rdL, if_pos e4, w1 n (by omega)]
      rw [e3, List.flatten_cons, ← List.append_assoc]
      exact Join_l0 ps hp d (n + 1) _ (by omega) (by rw [List.length_append]; omega)
    · simp only [if_neg (show ¬ (n : Int) < (ps.length : Int) by omega)]
      rw [List.drop_of_length_le (by omega)]
      simp only [List.flatten_nil, List.append_nil]
      exact Ev.now _
theorem Join_ev (ps : List (List Int)) (hp : ps.length ≤ 1000000) (hl : ps.flatten.length ≤ 100000000000) : Ev (fun k => manometerref01_Join.f k ps) ps.flatten := by
  have := Join_l0 ps hp ps.length 0 [] (by omega) (by simpa using hl)
  simpa [manometerref01_Join.f] using this
end Go.Proofs.YtmllgglcdlcdhaaDoor.Pu
end
