import Derived.Test.YtkkomfomjpcbfaaDoorSTokenVerifiesH2r
import Derived.Test.YtkkomfomjpcbfaaDoorSTokenVerifiesH3
import Derived.Deep.RegionHeld3
import Derived.Deep.RegionWith
import Derived.Deep.MidRow
set_option linter.unusedVariables false
set_option linter.unusedSimpArgs false
section
namespace Go.Proofs.YtkkomfomjpcbfaaDoor
open Go
namespace Sha
def eat : Nat → V8 → List Int → V8 × List Int
 | 0, v, l => (v, l)
 | k + 1, v, l => if 64 ≤ l.length then eat k (block v (l.take 64)) (l.drop 64) else (v, l)
def eatAll (v : V8) (l : List Int) : V8 × List Int := eat (l.length / 64) v l
theorem eat_small (k : Nat) (v : V8) (l : List Int) (h : l.length < 64) : eat k v l = (v, l) := by
 cases k with
 | zero => rfl
 | succ k => rw [eat, if_neg (by omega)]
theorem eat_more : ∀ (k j : Nat) (v : V8) (l : List Int), l.length / 64 ≤ k → l.length / 64 ≤ j → eat k v l = eat j v l
 | 0, j, v, l, h, h2 => by rw [eat_small j v l (by omega)]; rfl
 | k + 1, 0, v, l, h, h2 => by rw [eat_small (k + 1) v l (by omega)]; rfl
 | k + 1, j + 1, v, l, h, h2 => by
  rw [eat, eat]
  split
  ·exact eat_more k j _ _ (by rw [List.length_drop]; omega) (by rw [List.length_drop]; omega)
  ·rfl
theorem eatAll_small (v : V8) (l : List Int) (h : l.length < 64) : eatAll v l = (v, l) := eat_small _ v l h
theorem eatAll_big (v : V8) (l : List Int) (h : 64 ≤ l.length) : eatAll v l = eatAll (block v (l.take 64)) (l.drop 64) := by
 unfold eatAll
 obtain ⟨k, hk⟩ : ∃ k, l.length / 64 = k + 1 := ⟨l.length / 64 - 1, by omega⟩
 rw [hk, eat, if_pos h]
 exact eat_more _ _ _ _ (by rw [List.length_drop]; omega) (Nat.le_refl _)
theorem eatAll_left : ∀ (n : Nat) (v : V8) (l : List Int), l.length ≤ n → (eatAll v l).2.length < 64 ∧ (eatAll v l).2.length = l.length % 64 := by
 intro n
 induction n with
 | zero => intro v l h; rw [eatAll_small v l (by omega)]; simp only; omega
 | succ n ih =>
  intro v l h
  by_cases h64 : 64 ≤ l.length
  ·rw [eatAll_big v l h64]
   have := ih (block v (l.take 64)) (l.drop 64) (by rw [List.length_drop]; omega)
   rw [List.length_drop] at this
   omega
  ·rw [eatAll_small v l (by omega)]; simp only; omega
theorem eatAll_append : ∀ (n : Nat) (v : V8) (l p : List Int), l.length ≤ n → eatAll v (l ++ p) = eatAll (eatAll v l).1 ((eatAll v l).2 ++ p) := by
 intro n
 induction n with
 | zero => intro v l p h; rw [eatAll_small v l (by omega)]
 | succ n ih =>
  intro v l p h
  by_cases h64 : 64 ≤ l.length
  ·rw [eatAll_big v l h64, eatAll_big v (l ++ p) (by rw [List.length_append]; omega), List.take_append_of_le_length h64, List.drop_append_of_le_length h64]
   exact ih _ _ _ (by rw [List.length_drop]; omega)
  ·rw [eatAll_small v l (by omega)]
def vAt (v : V8) (l : List Int) : Nat → V8
 | 0 => v
 | j + 1 => block (vAt v l j) ((l.drop (64 * j)).take 64)
theorem vAt_shift (v : V8) (l : List Int) : ∀ j, vAt v l (j + 1) = vAt (block v (l.take 64)) (l.drop 64) j
 | 0 => by simp [vAt]
 | j + 1 => by
  rw [vAt, vAt_shift v l j, vAt, List.drop_drop]
  congr 3
  omega
theorem eatAll_vAt : ∀ (j : Nat) (v : V8) (l : List Int), 64 * j ≤ l.length → l.length < 64 * j + 64 → eatAll v l = (vAt v l j, l.drop (64 * j))
 | 0, v, l, h1, h2 => by rw [eatAll_small v l (by omega)]; simp [vAt]
 | j + 1, v, l, h1, h2 => by
  rw [eatAll_big v l (by omega), eatAll_vAt j _ _ (by rw [List.length_drop]; omega) (by rw [List.length_drop]; omega), vAt_shift, List.drop_drop]
  congr 2
  omega
end Sha
end Go.Proofs.YtkkomfomjpcbfaaDoor
end
section
namespace Go.Proofs.YtkkomfomjpcbfaaDoor
open Go.RowKit Go.Proofs.YtkkomfomjpcbfaaDoorW.PrintWords Go.Proofs.YtkkomfomjpcbfaaDoorW.PrintMore Go.Proofs.YtkkomfomjpcbfaaDoorW.PrintLast
attribute [local go_sem ↓] Go.wp_at_zero Go.wp_at_succ
def hCells (b : Bool) (v : Sha.V8) (vl : Value) (n : Int) : Array Value :=
 #[.bool b, .int .u32 v.a, .int .u32 v.b, .int .u32 v.c, .int .u32 v.d, .int .u32 v.e, .int .u32 v.f, .int .u32 v.g, .int .u32 v.h, vl, .int .i64 n]
structure HsB (w : World) (ok : Nat → Prop) (g : Nat) (v : Sha.V8) (vl : Value) (l : List Int) (n : Nat) : Prop where
 blk : w.heap[g]? = some (.cells (hCells true v vl n) 96 (0, 0))
 row : (Kd.int .u8).R 5 w 0 ok vl l
 okg : ok g
 byts : Byts l
def Hs (w : World) (ok : Nat → Prop) (g : Nat) (t : List Int) : Prop :=
 ∃ vl, HsB w ok g (Sha.eatAll Sha.H0 t).1 vl (Sha.eatAll Sha.H0 t).2 t.length
theorem hok_made (w : World) (g : Nat) (b : Bool) (v : Sha.V8) (vl : Value) (n : Int) (hg : w.heap[g]? = some (.cells (hCells b v vl n) 96 (0, 0))) :
  Calls Tryd.prog 66 #[.pointer (some ⟨g, 0, none⟩)] w fun e w' => e = .returned (.bool b) ∧ w = w' := by
 have h0 : w.cell? ⟨g, 0, none⟩ = some (.bool b) := (ka hg 0).trans rfl
 go_enter Tryd.func66, Tryd.ntmps66
 go_wp2
 go_ret
 exact ⟨rfl, rfl⟩
theorem begin_calls (w : World) :
  Calls Tryd.prog 65 #[] w fun e w' => e = .returned (aggV Sha.H0) ∧ Below w.heap.size w w' := by
 go_enter Tryd.func65, Tryd.ntmps65
 go_wp2
 have hn := kC w (.cells (nums .u32 Sha.H0.list).toArray 93)
 exact bodyPost_ret (results_cell_row rfl _ _ w.heap.size 93 (nums .u32 Sha.H0.list).toArray (0, 0) _ rfl hn Tryd.underlying93 rfl (by kernel_rfl)) rfl ⟨rfl, kt (Below.refl _ w) _⟩
theorem hnew_calls (w : World) :
  Calls Tryd.prog 43 #[] w fun e w' => ∃ g : Nat, e = .returned (.pointer (some ⟨g, 0, none⟩)) ∧ Hs w' (fun k => w.heap.size ≤ k) g [] ∧ Below w.heap.size w w' := by
 go_enter Tryd.func43, Tryd.ntmps43
 go_wp2_with fail
 refine (begin_calls w).mono ?_
 rintro e w1 ⟨rfl, hB⟩
 have HB := Lib.hid hB
 clear hB
 unfold aggV
 go_wp2_with fail
 go_ret
 refine ⟨w1.heap.size, rfl, ⟨.slice none 0 0, ?_⟩, kt HB.out _⟩
 have he : Sha.eatAll Sha.H0 [] = (Sha.H0, []) := rfl
 rw [he]
 exact ⟨kC w1 _, Kd.R_nil _ _ _ _ _, HB.out.size, fun x hx => by cases hx⟩
end Go.Proofs.YtkkomfomjpcbfaaDoor
end
section
namespace Go.Proofs.YtkkomfomjpcbfaaDoor
open Go.RowKit Go.Proofs.YtkkomfomjpcbfaaDoorW.PrintWords Go.Proofs.YtkkomfomjpcbfaaDoorW.PrintMore Go.Proofs.YtkkomfomjpcbfaaDoorW.PrintLast
attribute [local go_sem ↓] Go.wp_at_zero Go.wp_at_succ
def Parts (w : World) (okP : Nat → Prop) (A : Option Addr) (xss : List (List Int)) : Prop :=
 ∀ i, i < xss.length → ∃ ad B c, A = some ad ∧ okP (ad.add i).block ∧ w.cell? (ad.add i) = some (.slice B (xss.getD i []).length c) ∧ Kd.F (Kd.int .u8) w okP B (xss.getD i []).length (xss.getD i [])
theorem Parts.step {w w1 : World} {okP : Nat → Prop} {A : Option Addr} {xss : List (List Int)} (h : Parts w okP A xss) (hm : ∀ k, okP k → k < w.heap.size → w1.heap[k]? = w.heap[k]?) : Parts w1 okP A xss := by
 intro i hi
 obtain ⟨ad, B, c, e, hk, hc, hF⟩ := h i hi
 exact ⟨ad, B, c, e, hk, (World.cell?_of_block (hm _ hk (World.block_lt_of_cell? w _ hc))).trans hc, Kd.F_step hF hm⟩
theorem flat_next' (xss : List (List Int)) (k : Nat) (h : k < xss.length) : (xss.take k).flatten ++ xss.getD k [] = (xss.take (k + 1)).flatten := by
 rw [List.take_succ_eq_append_getElem h, List.flatten_append, List.getD_eq_getElem?_getD, List.getElem?_eq_getElem h]
 simp
theorem flat_le' (xss : List (List Int)) (k : Nat) (h : k < xss.length) : (xss.take k).flatten.length + (xss.getD k []).length ≤ xss.flatten.length := by
 rw [← List.length_append, flat_next' xss k h]
 conv => rhs; rw [← List.take_append_drop (k + 1) xss, List.flatten_append, List.length_append]
 exact Nat.le_add_right _ _
def put8 (W : World) (g : Nat) (V : Sha.V8) : World :=
 (((((((W.setCell ⟨g, 1, none⟩ (.int .u32 V.a)).setCell ⟨g, 2, none⟩ (.int .u32 V.b)).setCell ⟨g, 3, none⟩ (.int .u32 V.c)).setCell ⟨g, 4, none⟩ (.int .u32 V.d)).setCell ⟨g, 5, none⟩ (.int .u32 V.e)).setCell ⟨g, 6, none⟩ (.int .u32 V.f)).setCell ⟨g, 7, none⟩ (.int .u32 V.g)).setCell ⟨g, 8, none⟩ (.int .u32 V.h)
theorem put8_blk {W : World} {g : Nat} {st V : Sha.V8} {vl : Value} {n : Int} (hb : W.heap[g]? = some (.cells (hCells true st vl n) 96 (0, 0))) :
  (put8 W g V).heap[g]? = some (.cells (hCells true V vl n) 96 (0, 0)) := by
 have b1 : (W.setCell ⟨g, 1, none⟩ (.int .u32 V.a)).heap[g]? = some (.cells (hCells true ⟨V.a, st.b, st.c, st.d, st.e, st.f, st.g, st.h⟩ vl n) 96 (0, 0)) := (blk_set hb 1 _).trans rfl
 have b2 : ((W.setCell ⟨g, 1, none⟩ (.int .u32 V.a)).setCell ⟨g, 2, none⟩ (.int .u32 V.b)).heap[g]? = some (.cells (hCells true ⟨V.a, V.b, st.c, st.d, st.e, st.f, st.g, st.h⟩ vl n) 96 (0, 0)) := (blk_set b1 2 _).trans rfl
 have b3 : (((W.setCell ⟨g, 1, none⟩ (.int .u32 V.a)).setCell ⟨g, 2, none⟩ (.int .u32 V.b)).setCell ⟨g, 3, none⟩ (.int .u32 V.c)).heap[g]? = some (.cells (hCells true ⟨V.a, V.b, V.c, st.d, st.e, st.f, st.g, st.h⟩ vl n) 96 (0, 0)) := (blk_set b2 3 _).trans rfl
 have b4 : ((((W.setCell ⟨g, 1, none⟩ (.int .u32 V.a)).setCell ⟨g, 2, none⟩ (.int .u32 V.b)).setCell ⟨g, 3, none⟩ (.int .u32 V.c)).setCell ⟨g, 4, none⟩ (.int .u32 V.d)).heap[g]? = some (.cells (hCells true ⟨V.a, V.b, V.c, V.d, st.e, st.f, st.g, st.h⟩ vl n) 96 (0, 0)) := (blk_set b3 4 _).trans rfl
 have b5 : (((((W.setCell ⟨g, 1, none⟩ (.int .u32 V.a)).setCell ⟨g, 2, none⟩ (.int .u32 V.b)).setCell ⟨g, 3, none⟩ (.int .u32 V.c)).setCell ⟨g, 4, none⟩ (.int .u32 V.d)).setCell ⟨g, 5, none⟩ (.int .u32 V.e)).heap[g]? = some (.cells (hCells true ⟨V.a, V.b, V.c, V.d, V.e, st.f, st.g, st.h⟩ vl n) 96 (0, 0)) := (blk_set b4 5 _).trans rfl
 have b6 : ((((((W.setCell ⟨g, 1, none⟩ (.int .u32 V.a)).setCell ⟨g, 2, none⟩ (.int .u32 V.b)).setCell ⟨g, 3, none⟩ (.int .u32 V.c)).setCell ⟨g, 4, none⟩ (.int .u32 V.d)).setCell ⟨g, 5, none⟩ (.int .u32 V.e)).setCell ⟨g, 6, none⟩ (.int .u32 V.f)).heap[g]? = some (.cells (hCells true ⟨V.a, V.b, V.c, V.d, V.e, V.f, st.g, st.h⟩ vl n) 96 (0, 0)) := (blk_set b5 6 _).trans rfl
 have b7 : (((((((W.setCell ⟨g, 1, none⟩ (.int .u32 V.a)).setCell ⟨g, 2, none⟩ (.int .u32 V.b)).setCell ⟨g, 3, none⟩ (.int .u32 V.c)).setCell ⟨g, 4, none⟩ (.int .u32 V.d)).setCell ⟨g, 5, none⟩ (.int .u32 V.e)).setCell ⟨g, 6, none⟩ (.int .u32 V.f)).setCell ⟨g, 7, none⟩ (.int .u32 V.g)).heap[g]? = some (.cells (hCells true ⟨V.a, V.b, V.c, V.d, V.e, V.f, V.g, st.h⟩ vl n) 96 (0, 0)) := (blk_set b6 7 _).trans rfl
 have b8 : ((((((((W.setCell ⟨g, 1, none⟩ (.int .u32 V.a)).setCell ⟨g, 2, none⟩ (.int .u32 V.b)).setCell ⟨g, 3, none⟩ (.int .u32 V.c)).setCell ⟨g, 4, none⟩ (.int .u32 V.d)).setCell ⟨g, 5, none⟩ (.int .u32 V.e)).setCell ⟨g, 6, none⟩ (.int .u32 V.f)).setCell ⟨g, 7, none⟩ (.int .u32 V.g)).setCell ⟨g, 8, none⟩ (.int .u32 V.h)).heap[g]? = some (.cells (hCells true ⟨V.a, V.b, V.c, V.d, V.e, V.f, V.g, V.h⟩ vl n) 96 (0, 0)) := (blk_set b7 8 _).trans rfl
 exact b8
theorem put8_row {W : World} {g : Nat} {st V : Sha.V8} {vl vr : Value} {n : Int} {ok : Nat → Prop} {L : List Int} (hb : W.heap[g]? = some (.cells (hCells true st vl n) 96 (0, 0)))
  (hr : (Kd.int .u8).R 5 W 0 ok vr L) : (Kd.int .u8).R 5 (put8 W g V) 0 ok vr L := by
 have b1 := blk_set hb 1 (.int .u32 V.a)
 have b2 := blk_set b1 2 (.int .u32 V.b)
 have b3 := blk_set b2 3 (.int .u32 V.c)
 have b4 := blk_set b3 4 (.int .u32 V.d)
 have b5 := blk_set b4 5 (.int .u32 V.e)
 have b6 := blk_set b5 6 (.int .u32 V.f)
 have b7 := blk_set b6 7 (.int .u32 V.g)
 have r1 := Kd.R_set hr hb (by decide) 1 (.int .u32 V.a)
 have r2 := Kd.R_set r1 b1 (by decide) 2 (.int .u32 V.b)
 have r3 := Kd.R_set r2 b2 (by decide) 3 (.int .u32 V.c)
 have r4 := Kd.R_set r3 b3 (by decide) 4 (.int .u32 V.d)
 have r5 := Kd.R_set r4 b4 (by decide) 5 (.int .u32 V.e)
 have r6 := Kd.R_set r5 b5 (by decide) 6 (.int .u32 V.f)
 have r7 := Kd.R_set r6 b6 (by decide) 7 (.int .u32 V.g)
 exact Kd.R_set r7 b7 (by decide) 8 (.int .u32 V.h)
theorem put8_mod {w W : World} {g : Nat} {V : Sha.V8} {ok : Nat → Prop} (hm : Mod ok w W) (hg : ok g ∨ w.heap.size ≤ g) : Mod ok w (put8 W g V) :=
 (((((((hm.setCell (p := ⟨g, 1, none⟩) hg _).setCell (p := ⟨g, 2, none⟩) hg _).setCell (p := ⟨g, 3, none⟩) hg _).setCell (p := ⟨g, 4, none⟩) hg _).setCell (p := ⟨g, 5, none⟩) hg _).setCell (p := ⟨g, 6, none⟩) hg _).setCell (p := ⟨g, 7, none⟩) hg _).setCell (p := ⟨g, 8, none⟩) hg _
theorem info_u8' : (Tryd.prog.info? 5).map (fun i => (i.zero, i.size, i.bytes)) = some (some (.int .u8 0), 1, 1) := by kernel_rfl
set_option maxRecDepth 20000 in
set_option maxHeartbeats 4000000 in
theorem hwrite_calls (w : World) (ok okP : Nat → Prop) (g : Nat) (t : List Int) (A : Option Addr) (c : Nat) (xss : List (List Int)) (hH : Hs w ok g t) (hP : Parts w okP A xss) (hd : ∀ k, okP k → ¬ ok k ∧ k < w.heap.size) (hb : ∀ xs ∈ xss, Byts xs) (hl : t.length + xss.flatten.length ≤ 1000000000) (hn : xss.length ≤ 1000000000)
  (hT : ∀ i, i < 64 → w.cell? ⟨0, i, none⟩ = some (.int .u32 (Sha.K.getD i 0))) (h0 : ¬ ok 0) :
  Calls Tryd.prog 44 #[.pointer (some ⟨g, 0, none⟩), .slice A xss.length c] w fun e w' => e = .returned (.int .i64 0) ∧ Hs w' (fun k => ok k ∨ w.heap.size ≤ k) g (t ++ xss.flatten) ∧ Mod ok w w' := by
 have HP := Lib.hid hP
 have HH := Lib.hid hH
 have HD := Lib.hid hd
 have HBY := Lib.hid hb
 have HT := Lib.hid hT
 have HZ := Lib.hid h0
 obtain ⟨vl, hH1⟩ := hH
 have hgb := hH1.blk
 clear hP hd hb hT h0 hH1
 go_enter Tryd.func44, Tryd.ntmps44
 go_wp2_with (go_at_call 66; refine (hok_made _ _ _ _ _ _ hgb).mono ?_; rintro e w' ⟨rfl, rfl⟩)
 go_loopg [13] xss.length (fun kq s13 wr => ∃ k : Nat, k + kq = xss.length ∧ s13 = .int .i64 k ∧ Hid (Hs wr (fun j => ok j ∨ w.heap.size ≤ j) g (t ++ (xss.take k).flatten)) ∧ Hid (Mod ok w wr))
 case atStart =>
  obtain ⟨vl, h⟩ := HH.out
  refine ⟨0, by omega, rfl, ?_, Mod.refl _ _⟩
  rw [List.take_zero, List.flatten_nil, List.append_nil]
  exact ⟨vl, h.blk, Kd.R_mono h.row (fun _ hk => .inl hk), .inl h.okg, h.byts⟩
 case round =>
  obtain ⟨k, hk, rfl, hS, hM⟩ := hrel
  by_cases hlt : k < xss.length
  ·obtain ⟨ad, B, cb, hA, hkp, hcell, hFB⟩ := (HP.out.step (fun j hj hlt => hM.out.block j hlt (HD.out j hj).1)) k hlt
   subst hA
   have hfl := flat_le' xss k hlt
   obtain ⟨p, hp⟩ : ∃ p, p = xss.getD k [] := ⟨_, rfl⟩
   rw [← hp] at hcell hFB hfl
   have hbp : Byts p := by
    rw [hp, List.getD_eq_getElem?_getD, List.getElem?_eq_getElem hlt]
    exact HBY.out _ (List.getElem_mem hlt)
   have HBP := Lib.hid hbp
   have HPP := Lib.hid hp
   have HFB := Lib.hid hFB
   obtain ⟨T, hT2⟩ : ∃ T, T = t ++ (xss.take k).flatten := ⟨_, rfl⟩
   have hTl : T.length + p.length ≤ 1000000000 := by rw [hT2, List.length_append]; omega
   rw [← hT2] at hS
   have HTT := Lib.hid hT2
   clear hp hFB hT2 hkp hbp hfl
   obtain ⟨vl2, hs⟩ := hS.out
   have hgb2 := hs.blk
   have c10 : wr.cell? ⟨g, 10, none⟩ = some (.int .i64 T.length) := (ka hgb2 10).trans rfl
   have z10 := kc hgb2 10
   obtain ⟨Al, cl, hvl⟩ := Kd.R_slice hs.row
   subst hvl
   obtain ⟨v0, hv0⟩ : ∃ v0, v0 = (Sha.eatAll Sha.H0 T).1 := ⟨_, rfl⟩
   obtain ⟨l, hll⟩ : ∃ l, l = (Sha.eatAll Sha.H0 T).2 := ⟨_, rfl⟩
   rw [← hv0, ← hll] at hs
   rw [← hv0] at hgb2
   have hl64 : l.length < 64 := by rw [hll]; exact (Sha.eatAll_left _ Sha.H0 T (Nat.le_refl _)).1
   have HV0 := Lib.hid hv0
   have HLL := Lib.hid hll
   rw [← hll] at hgb2
   clear hv0 hll hS
   have HGS := Lib.hid hs
   have hM0 := hM.out.size
   go_upto_region 7 with fail
   have g1 : (wr.setCell ⟨g, 10, none⟩ (.int .i64 ((T.length : Int) + (p.length : Int)))).heap[g]? = some (.cells (hCells true v0 (.slice Al l.length cl) ((T.length : Int) + (p.length : Int))) 96 (0, 0)) := blk_set hgb2 10 _
   have r1 := Kd.R_set hs.row hs.blk (by decide) 10 (.int .i64 ((T.length : Int) + (p.length : Int)))
   have hgok : ok g ∨ w.heap.size ≤ g := hs.okg
   have fb1 := Kd.F_far (p := ⟨g, 10, none⟩) HFB.out (fun j hj e => by
    have h1 := HD.out j hj
    have h2 : j = g := e
    rcases hgok with h3 | h3
    ·exact h1.1 (by rw [h2]; exact h3)
    ·omega) (.int .i64 ((T.length : Int) + (p.length : Int)))
   have m1 := hM.out.setCell (p := ⟨g, 10, none⟩) hgok (.int .i64 ((T.length : Int) + (p.length : Int)))
   obtain ⟨w1, hw1⟩ : ∃ w1, w1 = wr.setCell ⟨g, 10, none⟩ (.int .i64 ((T.length : Int) + (p.length : Int))) := ⟨_, rfl⟩
   rw [← hw1] at g1 r1 fb1 m1 ⊢
   clear hw1 hgb2 c10 z10 hs
   have hs1 := m1.size
   have c9 : w1.cell? ⟨g, 9, none⟩ = some (.slice Al l.length cl) := (ka g1 9).trans rfl
   have G1 := Lib.hid g1
   have R1 := Lib.hid r1
   have FB1 := Lib.hid fb1
   have M1 := Lib.hid m1
   clear g1 r1 fb1 m1
   obtain ⟨L, hLp⟩ : ∃ L, L = l ++ p := ⟨_, rfl⟩
   have hLl : L.length = l.length + p.length := by rw [hLp, List.length_append]
   have HLP := Lib.hid hLp
   have HLL2 := Lib.hid hLl
   clear hLp hLl
   have hfr : ∀ j, w1.heap.size ≤ j → ok j ∨ w.heap.size ≤ j := fun j hj => .inr (Nat.le_trans hs1 hj)
   go_upto_region 8 with (at_builtin; refine (plain_int .u8).list_append rfl (.tmp 30) (.tmp 31) 45 (.int .u8 0) 1 rfl Tryd.underlying45 info_u8' rfl (by decide) p.length cb rfl rfl R1.out (Kd.F_now FB1.out) hfr (Nat.zero_le _) (by omega) ?_; intro v1 w2 hR2 hg2 hat; rw [← HLP.out] at hR2; obtain ⟨A1, c1, hv1⟩ := Kd.R_slice hR2; subst hv1; have HR2 := Lib.hid hR2; have HG2 := Lib.hid hg2; have HAT := Lib.hid hat; clear hR2 hg2 hat; have z9 : w2.frozen? ⟨g, 9, none⟩ = false := kc ((HG2.out.block g (ky G1.out) (fun e => Kd.R_ne R1.out G1.out (by decide) e)).trans G1.out) 9; have d9 : w2.cell? ⟨g, 9, none⟩ = some (.slice Al l.length cl) := (ka ((HG2.out.block g (ky G1.out) (fun e => Kd.R_ne R1.out G1.out (by decide) e)).trans G1.out) 9).trans rfl)
   have hgne : some g ≠ (Value.slice Al l.length cl).ownBlock := Kd.R_ne R1.out G1.out (by decide)
   have g2 : w2.heap[g]? = some (.cells (hCells true v0 (.slice Al l.length cl) ((T.length : Int) + (p.length : Int))) 96 (0, 0)) := (HG2.out.block g (ky G1.out) hgne).trans G1.out
   have g3 : (w2.setCell ⟨g, 9, none⟩ (.slice A1 L.length c1)).heap[g]? = some (.cells (hCells true v0 (.slice A1 L.length c1) ((T.length : Int) + (p.length : Int))) 96 (0, 0)) := blk_set g2 9 _
   have r3 := Kd.R_set HR2.out g2 (by decide) 9 (.slice A1 L.length c1)
   have m3 := (M1.out.grown HG2.out (fun j hj => R1.out.1 j hj)).setCell (p := ⟨g, 9, none⟩) hgok (.slice A1 L.length c1)
   have hB0 : Byts L := by
    rw [HLP.out]
    intro x hx
    rcases List.mem_append.1 hx with h | h
    ·exact HGS.out.byts x h
    ·exact HBP.out x h
   have HB0 := Lib.hid hB0
   obtain ⟨w3, hw3⟩ : ∃ w3, w3 = w2.setCell ⟨g, 9, none⟩ (.slice A1 L.length c1) := ⟨_, rfl⟩
   rw [← hw3] at g3 r3 m3 ⊢
   clear hw3 g2 hgne z9 d9 c9 hB0 hcell
   have G3 := Lib.hid g3
   have R3 := Lib.hid r3
   have M3 := Lib.hid m3
   clear g3 r3 m3 FB1 HFB
   have hLn : L.length ≤ 2000000000 := by have := HLL2.out; omega
   obtain ⟨J, hJ⟩ : ∃ J, J = L.length / 64 := ⟨_, rfl⟩
   have hJ1 : 64 * J ≤ L.length := by omega
   have hJ2 : L.length < 64 * J + 64 := by omega
   clear hJ
   generalize gk = GK at *
   go_wp2_with fail
   go_loopg [7] J (fun kq s7 wz => ∃ j : Nat, j + kq = J ∧ s7 = .int .i64 ((64 * j : Nat) : Int) ∧ Hid (wz.heap[g]? = some (.cells (hCells true (Sha.vAt v0 L j) (.slice A1 L.length c1) ((T.length : Int) + (p.length : Int))) 96 (0, 0))) ∧ Hid ((Kd.int .u8).R 5 wz 0 (fun k => ok k ∨ w.heap.size ≤ k) (.slice A1 L.length c1) L) ∧ Hid (Mod ok w wz))
   case atStart => exact ⟨0, by omega, rfl, G3.out, R3.out, M3.out⟩
   case round =>
    obtain ⟨j, hj, rfl, gz, rz, mz⟩ := hrel
    obtain ⟨q, hq⟩ : ∃ q, q = 64 * j := ⟨_, rfl⟩
    rw [← hq]
    have HQ := Lib.hid hq
    obtain ⟨st, hst⟩ : ∃ st, st = Sha.vAt v0 L j := ⟨_, rfl⟩
    rw [← hst] at gz
    have HST := Lib.hid hst
    clear hst
    have hcap := (Kd.R_reads' rz.out).2.1
    have c9 : wr.cell? ⟨g, 9, none⟩ = some (.slice A1 L.length c1) := (ka gz.out 9).trans rfl
    by_cases hjJ : j < J
    ·have hq64 : q + 64 ≤ L.length := by omega
     have a1 : wr.cell? ⟨g, 1, none⟩ = some (.int .u32 st.a) := (ka gz.out 1).trans rfl
     have a2 : wr.cell? ⟨g, 2, none⟩ = some (.int .u32 st.b) := (ka gz.out 2).trans rfl
     have a3 : wr.cell? ⟨g, 3, none⟩ = some (.int .u32 st.c) := (ka gz.out 3).trans rfl
     have a4 : wr.cell? ⟨g, 4, none⟩ = some (.int .u32 st.d) := (ka gz.out 4).trans rfl
     have a5 : wr.cell? ⟨g, 5, none⟩ = some (.int .u32 st.e) := (ka gz.out 5).trans rfl
     have a6 : wr.cell? ⟨g, 6, none⟩ = some (.int .u32 st.f) := (ka gz.out 6).trans rfl
     have a7 : wr.cell? ⟨g, 7, none⟩ = some (.int .u32 st.g) := (ka gz.out 7).trans rfl
     have a8 : wr.cell? ⟨g, 8, none⟩ = some (.int .u32 st.h) := (ka gz.out 8).trans rfl
     have z1 := kc gz.out 1
     have z2 := kc gz.out 2
     have z3 := kc gz.out 3
     have z4 := kc gz.out 4
     have z5 := kc gz.out 5
     have z6 := kc gz.out 6
     have z7 := kc gz.out 7
     have z8 := kc gz.out 8
     have f1 : IntKind.i64.wrap ((q : Int) + 64) = (q : Int) + 64 := IntWalk.i64_in _ (by omega)
     have f2 : ((q : Int) + 64).toNat = q + 64 := by omega
     have f3 : (0 : Int) ≤ (q : Int) + 64 := by omega
     have f4 : (q : Int) + 64 ≤ (c1 : Int) := by omega
     have f5 : (q : Int) ≤ (q : Int) + 64 := by omega
     have f6 : ¬ c1 = q := by omega
     clear hq
     go_upto_region 11 with fail
     have hglt : g < wr.heap.size := ky gz.out
     have HGL := Lib.hid hglt
     obtain ⟨X, hX⟩ : ∃ X, X = (L.take (q + 64)).drop q := ⟨_, rfl⟩
     have hXl : X.length = 64 := by rw [hX, List.length_drop, List.length_take]; omega
     have hCX : (Kd.int .u8).C wr (A1.map (·.add q)) 64 X := by
      have h := Kd.C_mid (lo := q) (hi := q + 64) (Kd.R_reads' rz.out).2.2 (by omega) hq64 hcap
      have e1 : q * (Kd.int .u8).sz = q := Nat.mul_one q
      rw [if_neg f6, e1, ← hX, hXl] at h
      exact h
     have hBX : Byts X := fun x hx => by
      rw [hX] at hx
      exact HB0.out x (List.mem_of_mem_take (List.mem_of_mem_drop hx))
     have hTW : ∀ i, i < 64 → wr.cell? ⟨0, i, none⟩ = some (.int .u32 (Sha.K.getD i 0)) := fun i hi => (mz.out.cell (HT.out i hi) HZ.out)
     have HCALL := Lib.hid (fun (W : World) (hW : Below wr.heap.size wr W) => hblock_calls W st (A1.map (·.add q)) 64 (c1 - q) X (Kd.C_below hCX hW) (Nat.le_refl _) hBX (fun i hi => (hW.cell (World.block_lt_of_cell? wr _ (hTW i hi))).trans (hTW i hi)))
     have HX := Lib.hid hX
     clear hX hXl hCX hBX hTW
     have c9d : wr.drew.cell? ⟨g, 9, none⟩ = some (.slice A1 L.length c1) := c9
     go_region_with (first | (go_at_call 67; refine (HCALL.out wr.drew (Below.refl _ wr).drew).mono ?_; rintro e w4 ⟨rfl, hB4⟩; have hbk : w4.heap[g]? = some (.cells (hCells true st (.slice A1 L.length c1) ((T.length : Int) + (p.length : Int))) 96 (0, 0)) := (hB4.block g hglt).trans gz.out; have x9 : w4.cell? ⟨g, 9, none⟩ = some (.slice A1 L.length c1) := (ka hbk 9).trans rfl; have p9 : (put8 w4 g (Sha.block st X)).cell? ⟨g, 9, none⟩ = some (.slice A1 L.length c1) := (ka (put8_blk hbk) 9).trans rfl; have y1 := kc hbk 1; have y2 := kc hbk 2; have y3 := kc hbk 3; have y4 := kc hbk 4; have y5 := kc hbk 5; have y6 := kc hbk 6; have y7 := kc hbk 7; have y8 := kc hbk 8; have x1 : w4.cell? ⟨g, 1, none⟩ = some (.int .u32 st.a) := (ka hbk 1).trans rfl; have x2 : w4.cell? ⟨g, 2, none⟩ = some (.int .u32 st.b) := (ka hbk 2).trans rfl; have x3 : w4.cell? ⟨g, 3, none⟩ = some (.int .u32 st.c) := (ka hbk 3).trans rfl; have x4 : w4.cell? ⟨g, 4, none⟩ = some (.int .u32 st.d) := (ka hbk 4).trans rfl; have x5 : w4.cell? ⟨g, 5, none⟩ = some (.int .u32 st.e) := (ka hbk 5).trans rfl; have x6 : w4.cell? ⟨g, 6, none⟩ = some (.int .u32 st.f) := (ka hbk 6).trans rfl; have x7 : w4.cell? ⟨g, 7, none⟩ = some (.int .u32 st.g) := (ka hbk 7).trans rfl; have x8 : w4.cell? ⟨g, 8, none⟩ = some (.int .u32 st.h) := (ka hbk 8).trans rfl; unfold aggV))
     all_goals
      go_wp2_with fail
      go_roundg (gk - 1)
      case measure => omega
      case rel =>
       have hv : Sha.block st X = Sha.vAt v0 L (j + 1) := by
        have e64 : q + 64 - q = 64 := by omega
        rw [Sha.vAt, HST.out, HX.out, List.drop_take, e64, HQ.out]
       refine ⟨j + 1, by omega, by have := HQ.out; go_num, ?_, ?_, ?_⟩
       ·rw [← hv]
        exact put8_blk hbk
       ·exact put8_row hbk (Kd.R_step rz.out (fun k hk1 hk2 => hB4.block k hk2))
       ·exact put8_mod (mz.out.drew.then_below hB4) hgok
    ·have hjq : j = J := by omega
     have hqL : q ≤ L.length := by omega
     have f1 : (q : Int) ≤ (L.length : Int) := by omega
     have f2 : (L.length : Int) ≤ (c1 : Int) := by omega
     have f3 : ¬ (64 : Int) ≤ (L.length : Int) - (q : Int) := by omega
     clear hq
     go_upto_region 12 with fail
     have hglt : g < wr.heap.size := ky gz.out
     have c9a : (wr.alloc (.cells #[] 5)).cell? ⟨g, 9, none⟩ = some (.slice A1 L.length c1) := (World.cell?_of_block (Below.heap_alloc wr _ g hglt)).trans c9
     have hokn : ok wr.heap.size ∨ w.heap.size ≤ wr.heap.size := .inr mz.out.size
     have hfr12 : ∀ k, (wr.alloc (.cells #[] 5)).heap.size ≤ k → ok k ∨ w.heap.size ≤ k := fun k hk => .inr (Nat.le_trans mz.out.size (Nat.le_trans (kt (Below.refl _ wr) _).size hk))
     have HC12 : Hid ((Kd.int .u8).C (wr.alloc (.cells #[] 5)) (if c1 = q then A1 else A1.map (·.add q)) (L.length - q) (L.drop q)) := by
      have h := Kd.C_mid (lo := q) (hi := L.length) (Kd.R_reads' rz.out).2.2 hqL (Nat.le_refl _) hcap
      have e1 : q * (Kd.int .u8).sz = q := Nat.mul_one q
      rw [e1, List.take_length, List.length_drop] at h
      exact Lib.hid (Kd.C_below h (kt (Below.refl _ wr) _))
     have G12 : Hid ((wr.alloc (.cells #[] 5)).heap[g]? = some (.cells (hCells true st (.slice A1 L.length c1) ((T.length : Int) + (p.length : Int))) 96 (0, 0))) := Lib.hid (kd gz.out _)
     have HN : Hid (¬ some g = some wr.heap.size) := Lib.hid (fun e => by injection e with e; omega)
     have hn12 : L.length - q ≤ 64 := by omega
     go_upto_region 5 with (at_builtin; refine (plain_int .u8).list_append rfl (.tmp 62) (.tmp 68) 45 (.int .u8 0) 1 rfl Tryd.underlying45 info_u8' rfl (by decide) (L.length - q) (c1 - q) rfl rfl (R_empty (Kd.int .u8) 5 wr 0 (fun k => ok k ∨ w.heap.size ≤ k) (Nat.zero_le _) hokn) HC12.out hfr12 (Nat.zero_le _) (by show (0 + (L.length - q)) * 1 ≤ _; omega) ?_; intro v5 w5 hR5 hg5 hat5; rw [List.nil_append] at hR5; obtain ⟨A5, c5, hv5⟩ := Kd.R_slice hR5; rw [List.length_drop] at hv5; subst hv5; have hg5' : (wr.alloc (.cells #[] 5)).grownBy w5 (some wr.heap.size) := hg5; have G5 := Lib.hid ((hg5'.block g (ky G12.out) HN.out).trans G12.out); have HG5 := Lib.hid hg5'; have HR5 := Lib.hid hR5; clear hR5 hg5 hg5' hat5; have z5 := kc G5.out 9; have d5 : w5.cell? ⟨g, 9, none⟩ = some (.slice A1 L.length c1) := (ka G5.out 9).trans rfl)
     all_goals
      go_roundg (GK - 1)
      case measure => omega
      case rel =>
       have hT1 : t ++ (xss.take (k + 1)).flatten = T ++ p := by
        rw [HTT.out, HPP.out, List.append_assoc, flat_next' xss k hlt]
       have hEA : Sha.eatAll Sha.H0 (T ++ p) = (st, L.drop q) := by
        rw [Sha.eatAll_append _ Sha.H0 T p (Nat.le_refl _), ← HV0.out, ← HLL.out, ← HLP.out, Sha.eatAll_vAt j v0 L (by rw [hjq]; exact hJ1) (by rw [hjq]; exact hJ2), HST.out, HQ.out]
       refine ⟨k + 1, by omega, by go_num, ⟨.slice A5 (L.length - q) c5, ?_⟩, (((mz.out.alloc _).grown HG5.out (fun b hb => .inr (by injection hb with hb; have := mz.out.size; omega))).setCell (p := ⟨g, 9, none⟩) hgok _)⟩
       rw [hT1, hEA]
       have hl2 : (T ++ p).length = T.length + p.length := List.length_append
       refine ⟨?_, ?_, hgok, ?_⟩
       ·rw [hl2]
        exact blk_set G5.out 9 _
       ·exact Kd.R_set HR5.out G5.out (by decide) 9 _
       ·exact fun x hx => HB0.out x (List.mem_of_mem_drop hx)
  ·have hke : k = xss.length := by omega
   subst hke
   go_wp2_with fail
   go_ret
   rw [List.take_length] at hS
   exact ⟨rfl, hS.out, hM.out⟩
end Go.Proofs.YtkkomfomjpcbfaaDoor
end
section
namespace Go.Proofs.YtkkomfomjpcbfaaDoor
open Go
namespace Sha
def big8 (m : Nat) : List Int := (List.range 8).map fun i => ((m / 2 ^ (56 - 8 * i) % 256 : Nat) : Int)
def zeros (n : Nat) : Nat := (119 - n % 64) % 64
def tail (n : Nat) : List Int := 128 :: (List.replicate (zeros n) 0 ++ big8 (8 * n))
def quad (x : Int) : List Int := [x / 16777216 % 256, x / 65536 % 256, x / 256 % 256, x % 256]
def digest (v : V8) : List Int := v.list.flatMap quad
def sum (t : List Int) : List Int := digest (eatAll H0 (t ++ tail t.length)).1
theorem big8_length (m : Nat) : (big8 m).length = 8 := by simp [big8]
theorem tail_length (n : Nat) : (tail n).length = zeros n + 9 := by simp [tail, big8_length]
theorem zeros_at (n l j : Nat) (h : l % 64 = n % 64) (hj : j ≤ zeros n) : (l + 1 + j) % 64 = 56 ↔ j = zeros n := by unfold zeros at hj ⊢; omega
theorem digest_length (v : V8) : (digest v).length = 32 := by rfl
theorem sum_length (t : List Int) : (sum t).length = 32 := digest_length _
theorem digest_get (v : V8) (i j : Nat) (hi : i < 8) (hj : j < 4) : (digest v).getD (4 * i + j) 0 = (quad (v.list.getD i 0)).getD j 0 := by
 rcases (by omega : i = 0 ∨ i = 1 ∨ i = 2 ∨ i = 3 ∨ i = 4 ∨ i = 5 ∨ i = 6 ∨ i = 7) with rfl | rfl | rfl | rfl | rfl | rfl | rfl | rfl <;>
  rcases (by omega : j = 0 ∨ j = 1 ∨ j = 2 ∨ j = 3) with rfl | rfl | rfl | rfl <;> rfl
theorem byts_quad (x : Int) : Byts (quad x) := by
 intro y hy
 simp only [quad, List.mem_cons, List.not_mem_nil, or_false] at hy
 rcases hy with rfl | rfl | rfl | rfl <;> omega
theorem byts_digest (v : V8) : Byts (digest v) := by
 intro y hy
 obtain ⟨x, _, h⟩ := List.mem_flatMap.1 hy
 exact byts_quad x y h
theorem byts_sum (t : List Int) : Byts (sum t) := byts_digest _
theorem byts_big8 (m : Nat) : Byts (big8 m) := by
 intro y hy
 obtain ⟨i, _, rfl⟩ := List.mem_map.1 hy
 omega
theorem byts_tail (n : Nat) : Byts (tail n) := by
 intro y hy
 rcases List.mem_cons.1 hy with rfl | hy
 ·omega
 ·rcases List.mem_append.1 hy with hy | hy
  ·have := List.eq_of_mem_replicate hy
   omega
  ·exact byts_big8 _ y hy
theorem big8_next (m i : Nat) (h : i < 8) : (big8 m).take i ++ [((m / 2 ^ (56 - 8 * i) % 256 : Nat) : Int)] = (big8 m).take (i + 1) := by
 have hl : i < (big8 m).length := by rw [big8_length]; exact h
 rw [List.take_succ_eq_append_getElem hl]
 simp [big8]
end Sha
end Go.Proofs.YtkkomfomjpcbfaaDoor
end
section
namespace Go.Proofs.YtkkomfomjpcbfaaDoor
open Go.RowKit Go.Proofs.YtkkomfomjpcbfaaDoorW.PrintWords Go.Proofs.YtkkomfomjpcbfaaDoorW.PrintMore Go.Proofs.YtkkomfomjpcbfaaDoorW.PrintLast
theorem nums_length (k : IntKind) (xs : List Int) : (nums k xs).length = xs.length := by simp [nums]
theorem nums_one (k : IntKind) (xs : List Int) : ∀ v ∈ nums k xs, v.oneCell' = true := by
 intro v hv
 obtain ⟨x, _, rfl⟩ := List.mem_map.1 hv
 rfl
def putA (w : World) (g : Nat) (k : IntKind) (ys : List Int) : World := w.setCells g 0 (nums k ys)
section
variable {w : World} {g t T : Nat} {k k' : IntKind} {xs ys : List Int} {d : TypeDesc}
theorem Blk.range (h : Blk w g k t xs) : w.rangeAt g 0 (nums k xs) := fun j v hv => by
 rw [Nat.zero_add, ka h j, List.getElem?_toArray]
 exact hv
theorem Blk.there (h : Blk w g k t xs) : w.there g 0 xs.length := fun j hj => by
 rw [Nat.zero_add, ka h j, List.getElem?_toArray, List.getElem?_eq_getElem (by rw [nums_length]; exact hj)]
 exact ⟨rfl, kc h j⟩
theorem Blk.putA (h : Blk w g k t xs) (hl : ys.length = xs.length) : Blk (putA w g k' ys) g k' t ys := by
 obtain ⟨cur', h1, h2, h3⟩ := setCells_row (nums k' ys) 0 w _ h (by rw [List.size_toArray, nums_length, nums_length]; omega)
 have h4 : cur' = (nums k' ys).toArray := by
  apply Array.ext'
  rw [h3, List.take_zero, List.nil_append, List.toList_toArray, List.drop_of_length_le (by rw [nums_length, nums_length]; omega), List.append_nil]
 rw [h4] at h1
 exact h1
theorem putA_far {b : Nat} (hb : b ≠ g) : (putA w g k ys).heap[b]? = w.heap[b]? := setCells_far _ _ b hb
theorem putA_below {w0 : World} {B : Nat} (h : Below B w0 w) (hg : B ≤ g) : Below B w0 (putA w g k ys) := by
 obtain ⟨h1, h2, h3, h4⟩ := setCells_same g (nums k ys) 0 w
 exact ⟨h1.trans h.os, h2.trans h.tape, h3.trans h.output, Nat.le_trans h.size (Nat.le_of_eq h4.symm), fun j hj => (putA_far (by omega)).trans (h.block j hj)⟩
theorem putA_mod {w0 : World} {S : Nat → Prop} (h : Mod S w0 w) (hg : S g ∨ w0.heap.size ≤ g) : Mod S w0 (putA w g k ys) := by
 obtain ⟨h1, h2, h3, h4⟩ := setCells_same g (nums k ys) 0 w
 exact ⟨h1.trans h.os, h2.trans h.tape, h3.trans h.output, Nat.le_trans h.size (Nat.le_of_eq h4.symm), fun j hj hn => (putA_far (by
  rintro rfl
  rcases hg with hg | hg
  ·exact hn hg
  ·omega)).trans (h.block j hj hn)⟩
end
end Go.Proofs.YtkkomfomjpcbfaaDoor
end
