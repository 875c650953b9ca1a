import Derived.Test.YtbpmgaaipkenkaaDoorCLimitSeriesPMSx5
import Derived.Test.YtbpmgaaipkenkaaDoorCLimitSeriesPMSx7
section
namespace Go.Proofs.YtbpmgaaipkenkaaDoor
open Go Go.RowKit Go.Proofs.YtbpmgaaipkenkaaDoorW.PrintWords Go.Proofs.YtbpmgaaipkenkaaDoorW.PrintLast Go.Proofs.YtbpmgaaipkenkaaDoorW.PrintMore
set_option linter.unusedVariables false
set_option linter.unusedSimpArgs false
attribute [local go_sem ↓] Go.wp_at_zero Go.wp_at_succ
structure RL (w : World) (A : Option Addr) (c : Nat) (ps : List (SL × LS)) : Prop where
  le : ps.length ≤ c
  C : kV.C w A ps.length (ps.map (fun y : SL × LS => y.1))
  R : ∀ p ∈ ps, Rd w p
theorem RL.below {w w' : World} {A : Option Addr} {c : Nat} {ps : List (SL × LS)} (h : RL w A c ps) (hb : Below w.heap.size w w') : RL w' A c ps := ⟨h.le, Kd.C_below h.C hb, fun p hp => (h.R p hp).ck (CK.below hb)⟩
theorem RL.at {w : World} {A : Option Addr} {c : Nat} {ps : List (SL × LS)} (h : RL w A c ps) {i : Nat} (hi : i < ps.length) (z : SL × LS) :
    ∃ ad, A = some ad ∧ w.cell? (ad.add i) = some (encS (ps.getD i z).1) := by
  obtain ⟨ad, cs, hA, hcl, hK, hcell⟩ := Kd.C_get h.C (none, 0, 0) (i : Int) (by omega) (by omega)
  rw [Int.toNat_natCast] at hK hcell
  have hKx : cs = [encS (ps.getD i z).1] := by
    have h1 : cs = [encS ((ps.map (fun y : SL × LS => y.1)).getD i (none, 0, 0))] := hK
    rw [h1, List.getD_eq_getElem?_getD, List.getElem?_map, List.getElem?_eq_getElem hi, List.getD_eq_getElem?_getD, List.getElem?_eq_getElem hi]
    rfl
  subst hKx
  have hcx := hcell 0 _ rfl
  rw [show i * kV.sz + 0 = i from Nat.mul_one i] at hcx
  exact ⟨ad, hA, hcx⟩
theorem rsame_g (W : World) (p q : SL × LS) (r : Bool) (hp : Rd W p) (hq : Rd W q) (h : ∃ k, PMS.manometerref05_Same.f k p.2 q.2 = some r) :
    Calls Tryd.prog 48 #[encS p.1, encS q.1] W fun e w' => e = .returned (.bool r) ∧ Below W.heap.size W w' := by
  obtain ⟨⟨A, n, c⟩, l⟩ := p
  obtain ⟨⟨B, m, d⟩, l2⟩ := q
  obtain ⟨k, h⟩ := h
  have e1 : n = l.length := hp.len
  have e2 : m = l2.length := hq.len
  subst e1
  subst e2
  exact (PMS.manometerref05_Same.calls k A c l B d l2 r W hp.C hp.le hq.C hq.le h).mono (fun e w' h => ⟨h.1, below_dr h.2⟩)
set_option maxRecDepth 20000 in
set_option maxHeartbeats 8000000 in
theorem rhas_calls (w : World) (g A c : _) (ps : List (SL × LS)) (x : SL × LS) (f : LS → Bool)
    (hg : w.heap[g]? = some (.cells #[.slice A ps.length c] 64 (0, 0))) (hr : RL w A c ps) (hx : Rd w x) (hl : ps.length ≤ 1000000)
    (hs : ∀ p ∈ ps, ∃ k, PMS.manometerref05_Same.f k p.2 x.2 = some (f p.2)) :
    Calls Tryd.prog 36 #[.pointer (some ⟨g, 0, none⟩), encS x.1] w fun e w' => e = .returned (.bool (ps.any (fun p => f p.2))) ∧ Below w.heap.size w w' := by
  have HG : w.cell? ⟨g, 0, none⟩ = some (.slice A ps.length c) := (blk_cell hg 0).trans rfl
  have HR := Lib.hid (fun (W : World) (hW : Below w.heap.size w W) => hr.below hW)
  have HX := Lib.hid (fun (W : World) (hW : Below w.heap.size w W) => hx.ck (CK.below hW))
  have HS := Lib.hid hs
  clear hg hr hx hs
  obtain ⟨⟨XA, XN, XC⟩, xl⟩ := x
  go_enter Tryd.func36, Tryd.ntmps36
  go_wp2
  go_loopg [12] ps.length (fun kq s12 wr => ∃ i : Nat, i + kq = ps.length ∧ s12 = .int .i64 (i : Int) ∧ Hid (Below w.heap.size w wr) ∧ Hid (ps.any (fun p => f p.2) = (ps.drop i).any (fun p => f p.2)))
  case atStart => exact ⟨0, by omega, rfl, Below.refl _ _, rfl⟩
  case round =>
    obtain ⟨i, hi, rfl, hBr, hA⟩ := hrel
    by_cases hlt : i < ps.length
    · obtain ⟨ad, hAd, hcx⟩ := (HR.out wr hBr.out).at hlt ((none, 0, 0), [])
      subst hAd
      obtain ⟨q, hq⟩ : ∃ q, q = ps.getD i ((none, 0, 0), []) := ⟨_, rfl⟩
      rw [← hq] at hcx
      have hqm : q ∈ ps := by
        rw [hq, List.getD_eq_getElem?_getD, List.getElem?_eq_getElem hlt]
        exact List.getElem_mem hlt
      have hdr : (ps.drop i).any (fun p => f p.2) = (f q.2 || (ps.drop (i + 1)).any (fun p => f p.2)) := by
        rw [List.drop_eq_getElem_cons hlt, List.any_cons, hq, List.getD_eq_getElem?_getD, List.getElem?_eq_getElem hlt]
        rfl
      obtain ⟨r, hr⟩ : ∃ r, r = f q.2 := ⟨_, rfl⟩
      have hsq := HS.out q hqm
      rw [← hr] at hsq hdr
      have HQ := Lib.hid (And.intro hqm (And.intro hsq hdr))
      clear hq hqm hdr hsq hr
      obtain ⟨⟨QA, QN, QC⟩, ql⟩ := q
      rcases r with _ | _
      · go_wp2_with (go_at_call 48; (with_reducible refine (rsame_g wr ((QA, QN, QC), ql) ((XA, XN, XC), xl) false ((HR.out wr hBr.out).R _ HQ.out.1) (HX.out wr hBr.out) HQ.out.2.1).mono ?_); rintro e w5 ⟨rfl, hB5⟩; have HB5 := Lib.hid (hBr.out.trans (lower_m hB5 hBr.out.size)); clear hB5)
        go_roundg (gk - 1)
        case measure => omega
        case rel => exact ⟨i + 1, by omega, by go_num, HB5.out, hA.out.trans HQ.out.2.2⟩
      · go_wp2_with (go_at_call 48; (with_reducible refine (rsame_g wr ((QA, QN, QC), ql) ((XA, XN, XC), xl) true ((HR.out wr hBr.out).R _ HQ.out.1) (HX.out wr hBr.out) HQ.out.2.1).mono ?_); rintro e w5 ⟨rfl, hB5⟩; have HB5 := Lib.hid (hBr.out.trans (lower_m hB5 hBr.out.size)); clear hB5)
        go_ret
        refine ⟨?_, HB5.out⟩
        rw [hA.out, HQ.out.2.2]
        rfl
    · go_wp2
      go_ret
      refine ⟨?_, hBr.out⟩
      rw [hA.out, List.drop_of_length_le (by omega)]
      rfl
end Go.Proofs.YtbpmgaaipkenkaaDoor
end
section
namespace Go.Proofs.YtbpmgaaipkenkaaDoor
open Go Go.RowKit Go.Proofs.YtbpmgaaipkenkaaDoorW.PrintWords Go.Proofs.YtbpmgaaipkenkaaDoorW.PrintLast Go.Proofs.YtbpmgaaipkenkaaDoorW.PrintMore
set_option linter.unusedVariables false
set_option linter.unusedSimpArgs false
attribute [local go_sem ↓] Go.wp_at_zero Go.wp_at_succ
def putL (cmp : LS → LS → Int) (x : LS) : List LS → List LS
  | [] => [x]
  | y :: l => if cmp y x < 0 then y :: putL cmp x l else x :: y :: l
theorem putL_app {cmp : LS → LS → Int} {x : LS} : ∀ {a b : List LS}, (∀ y ∈ a, cmp y x < 0) → putL cmp x (a ++ b) = a ++ putL cmp x b
  | [], b, h => rfl
  | y :: a, b, h => by
    rw [List.cons_append]
    simp only [putL, if_pos (h y (by simp))]
    rw [putL_app (fun z hz => h z (by simp [hz]))]
    rfl
theorem putL_stop {cmp : LS → LS → Int} {x : LS} {b : List LS} (h : ∀ y, b.head? = some y → ¬ cmp y x < 0) : putL cmp x b = x :: b := by
  rcases b with _ | ⟨y, b⟩
  · rfl
  · simp only [putL, if_neg (h y rfl)]
theorem rcompare_g (W : World) (p q : SL × LS) (r : Int) (hp : Rd W p) (hq : Rd W q) (h : ∃ k, PMS.manometerref05_Compare.f k p.2 q.2 = some r) :
    Calls Tryd.prog 54 #[encS p.1, encS q.1] W fun e w' => e = .returned (.int .i64 r) ∧ Below W.heap.size W w' := by
  obtain ⟨⟨A, n, c⟩, l⟩ := p
  obtain ⟨⟨B, m, d⟩, l2⟩ := q
  obtain ⟨k, h⟩ := h
  have e1 : n = l.length := hp.len
  have e2 : m = l2.length := hq.len
  subst e1
  subst e2
  exact PMS.manometerref05_Compare.calls k A c l B d l2 r W hp.C hp.le hq.C hq.le h
theorem RL.tail {w : World} {A : Option Addr} {c : Nat} {p : SL × LS} {ps : List (SL × LS)} (h : RL w A c (p :: ps)) : RL w (if c = 1 then A else A.map (·.add (1 * 1))) (c - 1) ps := by
  have hle := h.le
  rw [List.length_cons] at hle
  have hC := Kd.C_drop (m := 1) (c := c) (k := kV) (w := w) (A := A) (xs := (p :: ps).map (fun y : SL × LS => y.1)) (by have := h.C; rwa [List.length_map]) (by simp) (by rw [List.length_map, List.length_cons]; exact hle)
  refine ⟨by omega, ?_, fun q hq => h.R q (by simp [hq])⟩
  have e : ((p :: ps).map (fun y : SL × LS => y.1)).drop 1 = ps.map (fun y : SL × LS => y.1) := rfl
  rw [e, List.length_map] at hC
  exact hC
def PutPost (w : World) (cmp : LS → LS → Int) (ps : List (SL × LS)) (x : LS) (e : Ending) (w' : World) : Prop :=
  ∃ (v : Value) (qs : List (SL × LS)), e = .returned v ∧ kV.R 61 w' w.heap.size (fun _ => True) v (qs.map (fun y : SL × LS => y.1)) ∧ qs.map (fun y : SL × LS => y.2) = putL cmp x (ps.map (fun y : SL × LS => y.2)) ∧ (∀ q ∈ qs, q ∈ ps ∨ TR w' q) ∧ Below w.heap.size w w'
set_option maxRecDepth 20000 in
set_option maxHeartbeats 8000000 in
theorem put_calls (w : World) (cmp : LS → LS → Int) (A : Option Addr) (c : Nat) (ps : List (SL × LS)) (x : SL × LS) (hr : RL w A c ps) (hx : Rd w x) (hl : ps.length ≤ 1000000) (hxl : x.2.length ≤ 1000000)
    (hs : ∀ p ∈ ps, ∃ k, PMS.manometerref05_Compare.f k p.2 x.2 = some (cmp p.2 x.2)) :
    Calls Tryd.prog 47 #[.slice A ps.length c, encS x.1] w fun e w' =>
      PutPost w cmp ps x.2 e w' := by
  have HR0 := Lib.hid hr
  have HX := Lib.hid (fun (W : World) (hW : Below w.heap.size w W) => hx.ck (CK.below hW))
  have HS := Lib.hid hs
  clear hr hx hs
  obtain ⟨⟨XA, XN, XC⟩, xl⟩ := x
  have hXN : XN = xl.length := (HX.out w (Below.refl _ w)).len
  subst hXN
  go_enter Tryd.func47, Tryd.ntmps47
  go_upto_region 2 with ((with_reducible refine gate_dst (N := 6) rfl ?_); refine Kd.R_lit kV w.heap.size 61 ?hg (N := 6) ?hd (xs := ([] : List SL)) (inner := []) (ok := fun _ => True) (okp := fun _ => True) ?hr ?hp (fun _ hk => hk) trivial (Below.refl _ _) (Nat.le_refl _) (by simp) ?_; (case hd => rfl); (case hg => rfl); (case hr => first | (go_simp; done) | (go_simp; rfl)); (case hp => exact (Reps.none _ _)); intro v0 w3 ho4 hb _ _; have HO3 := Lib.hid ho4; have HB3 := Lib.hid hb; clear ho4 hb)
  go_loopg [0, 5] ps.length (fun kq s0 s5 wr => ∃ (done rest : List (SL × LS)) (A' : Option Addr) (c' : Nat), rest.length = kq ∧ s0 = .slice A' rest.length c' ∧ Hid (ps = done ++ rest) ∧ Hid (∀ p ∈ done, cmp p.2 xl < 0) ∧ Hid (Below w.heap.size w wr) ∧ Hid (RL w A' c' rest) ∧ Hid (kV.R 61 wr w.heap.size (fun _ => True) s5 (done.map (fun y : SL × LS => y.1))))
  case atStart => exact ⟨[], ps, A, c, rfl, rfl, rfl, fun p hp => by simp at hp, HB3.out, HR0.out, HO3.out⟩
  case round =>
    obtain ⟨done, rest, A', c', hk, rfl, HP, HD, HBr, HRL, HO⟩ := hrel
    obtain ⟨A5, c5, hs5⟩ := Kd.R_slice HO.out
    rw [List.length_map] at hs5
    subst hs5
    have hdl : done.length + rest.length = ps.length := by
      have := congrArg List.length HP.out
      rw [List.length_append] at this
      exact this.symm
    have HK := Lib.hid hk
    clear hk
    rcases rest with _ | ⟨q, rest⟩
    · have HTO := HO
      have HTB := HBr
      have HDL := Lib.hid hdl
      have HSTOP : Hid (∀ y, (([] : List (SL × LS)).map (fun y : SL × LS => y.2)).head? = some y → ¬ cmp y xl < 0) := Lib.hid (fun y hy => by cases hy)
      clear hdl
      go_wp2_with (first
        | ((with_reducible refine gate_dst (N := 27) rfl ?_); refine Kd.R_lit kL (w0 := w) w.heap.size 66 ?hg (N := 27) ?hd (xs := ([] : LS)) (inner := []) (ok := fun _ => True) (okp := fun _ => True) ?hr ?hp (fun _ hk => hk) trivial HTB.out HTB.out.size (by simp) ?_; (case hd => rfl); (case hg => rfl); (case hr => first | (go_simp; done) | (go_simp; rfl)); (case hp => exact (Reps.none _ _)); go_loud (intro v27 w6 ho hb hg6 _; have HT6 := Lib.hid (Kd.R_grown HTO.out hg6 (fun k _ => by simp)); have HO6 := Lib.hid ho; have HB6 := Lib.hid hb; clear ho hb hg6))
        | ((with_reducible refine gate_builtin (b := .append) (xs := #[.tmp 27, .tmp 28]) rfl ?_); at_builtin; go_loud (refine Kd.R_append_rows kL (w0 := w) (W := w6) w.heap.size rfl (.tmp 27) (.tmp 28) 61 66 (.agg #[(.string ⟨#[]⟩), (.string ⟨#[]⟩)]) 32 rfl Tryd.underlying61 PMS.info66 rfl (by decide) (by omega) v27 ([] : LS) xl XA xl.length XC (fun _ => True) (fun _ => False) rfl rfl HO6.out (HX.out w6 HB6.out).C (fun _ _ h => h) (fun _ h => h.elim) (fun _ _ => trivial) HB6.out HB6.out.size (by rw [List.length_nil]; omega) ?_); go_loud (intro v29 w7 ho hb hg7 _; rw [List.nil_append] at ho; obtain ⟨A9, c9, e9⟩ := Kd.R_slice ho; subst e9; have HT7 := Lib.hid (Kd.R_over' (v := v27) HT6.out (Kd.R_typed HO6.out) (by decide) hg7); have HO7 := Lib.hid ho; have HB7 := Lib.hid hb; clear ho hb hg7))
        | ((with_reducible refine gate_builtin (b := .append) (xs := #[.tmp 26, .tmp 30]) rfl ?_); at_builtin; go_loud (refine Kd.R_append kV (w0 := w) (W := w7) w.heap.size rfl (.tmp 26) (.tmp 30) 50 61 (.slice none 0 0) 24 rfl Tryd.underlying50 info_ls rfl (by decide) (by decide) (.slice A5 done.length c5) (done.map (fun y : SL × LS => y.1)) (A9, xl.length, c9) [encS (A9, xl.length, c9)] (fun _ => True) (fun _ => False) rfl rfl rfl (fun _ h => h.elim) (fun _ _ => trivial) HT7.out HB7.out HB7.out.size (by rw [List.length_map]; have := HDL.out; omega) ?_); go_loud (intro v31 w8 ho hb hg8 _; have HG8 := Lib.hid hg8; have HO8 := Lib.hid ho; have HB8 := Lib.hid hb; clear ho hb hg8))
        | ((with_reducible refine gate_builtin (b := .append) (xs := #[.tmp 32, .tmp 33]) rfl ?_); at_builtin; go_loud (refine Kd.R_append_rows kV (w0 := w) (W := w8) w.heap.size rfl (.tmp 32) (.tmp 33) 50 61 (.slice none 0 0) 24 rfl Tryd.underlying50 info_ls rfl (by decide) (by decide) v31 (done.map (fun y : SL × LS => y.1) ++ [(A9, xl.length, c9)]) (([] : List (SL × LS)).map (fun y : SL × LS => y.1)) A' 0 c' (fun _ => True) (fun _ => False) rfl rfl HO8.out (HRL.out.below HB8.out).C (fun _ _ h => h) (fun _ h => h.elim) (fun _ _ => trivial) HB8.out HB8.out.size (by rw [List.length_append, List.length_map, List.length_singleton]; have := HDL.out; (try rw [List.length_cons] at this); omega) ?_); go_loud (intro v34 w9 ho hb hg9 _; have HG9 := Lib.hid hg9; have HO9 := Lib.hid ho; have HB9 := Lib.hid hb; clear ho hb hg9)))
      go_ret
      have hTR7 : TR w7 ((A9, xl.length, c9), xl) := by
        obtain ⟨A2, c2, e2, h2, h3⟩ := Kd.R_reads HO7.out
        obtain ⟨rfl, -, rfl⟩ := Value.slice.inj e2
        refine ⟨⟨rfl, h2, h3⟩, fun hne => ?_⟩
        obtain ⟨g, cap, e3, _, _, cells, hcl⟩ := Kd.R_form HO7.out (List.length_pos_iff.2 hne)
        obtain ⟨rfl, -, -⟩ := Value.slice.inj e3
        exact ⟨_, cells, rfl, hcl⟩
      have hTR9 : TR w9 ((A9, xl.length, c9), xl) := (hTR7.move (fun k cells hc => HG8.out.block k (blk_lt hc) (Kd.R_ne HT7.out hc (by decide)))).move (fun k cells hc => HG9.out.block k (blk_lt hc) (Kd.R_ne HO8.out hc (by decide)))
      refine ⟨_, done ++ ((A9, xl.length, c9), xl) :: ([] : List (SL × LS)), rfl, ?_, ?_, fun p hp => ?_, HB9.out⟩
      · have := HO9.out
        rw [List.append_assoc] at this
        rw [List.map_append, List.map_cons]
        exact this
      · rw [HP.out, List.map_append, List.map_append, putL_app (fun y hy => by
          obtain ⟨p, hp, rfl⟩ := List.mem_map.1 hy
          exact HD.out p hp), putL_stop (fun y hy h => by have := HSTOP.out y hy; omega)]
        rfl
      · rcases List.mem_append.1 hp with hp | hp
        · exact .inl (by rw [HP.out]; exact List.mem_append_left _ hp)
        · rcases List.mem_cons.1 hp with rfl | hp
          · exact .inr hTR9
          · exact .inl (by rw [HP.out]; exact List.mem_append_right _ hp)
    · obtain ⟨ad, hA, hcx⟩ := (HRL.out.below HBr.out).at (i := 0) (by simp) q
      subst hA
      have e0 : ad.add 0 = ad := by
        obtain ⟨b0, o0, v0'⟩ := ad
        cases v0' <;> simp [Addr.add]
      have hcx' : wr.cell? ad = some (encS q.1) := by rw [← e0]; exact hcx
      obtain ⟨r, hr⟩ : ∃ r, r = cmp q.2 xl := ⟨_, rfl⟩
      have hqm : q ∈ ps := by rw [HP.out]; simp
      have hcq := HS.out q hqm
      have hcq' : ∃ k, PMS.manometerref05_Compare.f k q.2 xl = some r := by rw [hr]; exact hcq
      have HQ := Lib.hid (And.intro hcq' (And.intro hr (HRL.out.R q (by simp))))
      clear hcq hcq' hr hqm hcx e0
      by_cases hr0 : r < 0
      · go_upto_region 3 with (go_at_call 54; go_loud (with_reducible refine (rcompare_g wr q ((XA, xl.length, XC), xl) r (HQ.out.2.2.ck (CK.below HBr.out)) (HX.out wr HBr.out) HQ.out.1).mono ?_); rintro e w4 ⟨rfl, hB4⟩; have HO4 := Lib.hid (Kd.R_below HO.out hB4); have hcx4 : w4.cell? ad = some (encS q.1) := CK.below hB4 _ _ hcx'; have HB4 := Lib.hid (HBr.out.trans (lower_m hB4 HBr.out.size)); clear hB4)
        clear hcx'
        obtain ⟨i0, hi0, _, hsz0, _⟩ := info_parts info_ls
        have hle := HRL.out.le
        rw [List.length_cons] at hle
        have hcut := cut_from (P := Tryd.prog) 50 61 .i64 Tryd.underlying50 hi0 1 hsz0 (some ad) (rest.length + 1) c' 1 (by decide) (by omega)
        obtain ⟨AA, hAA⟩ : ∃ AA, AA = (if c' = 1 then some ad else (some ad : Option Addr).map (·.add (1 * 1))) := ⟨_, rfl⟩
        have hcut' : ∀ W : World, (Instr.slice 50 (.slice (some ad) (rest.length + 1) c') (some (.int .i64 1)) none none).run Tryd.prog W = .ok (.slice AA rest.length (c' - 1)) W := fun W => by rw [hAA]; exact hcut W
        have HRT : Hid (RL w AA (c' - 1) rest) := Lib.hid (by rw [hAA]; exact HRL.out.tail)
        have HHD : Hid (∀ p ∈ done ++ [q], cmp p.2 xl < 0) := Lib.hid (fun p hp => by
          rcases List.mem_append.1 hp with hp | hp
          · exact HD.out p hp
          · rw [List.mem_singleton.1 hp, ← HQ.out.2.1]
            exact hr0)
        have HPP : Hid (ps = (done ++ [q]) ++ rest) := Lib.hid (by rw [List.append_assoc]; exact HP.out)
        have HDL := Lib.hid hdl
        clear hAA hcut hi0 hsz0 hle hdl
        obtain ⟨⟨QA, QN, QC⟩, ql⟩ := q
        go_wp2_with (at_builtin; go_loud (refine Kd.R_append kV (w0 := w) (W := w4) w.heap.size rfl (.tmp 18) (.tmp 22) 50 61 (.slice none 0 0) 24 rfl Tryd.underlying50 info_ls rfl (by decide) (by decide) (.slice A5 done.length c5) (done.map (fun y : SL × LS => y.1)) (QA, QN, QC) [encS (QA, QN, QC)] (fun _ => True) (fun _ => False) rfl rfl rfl (fun _ h => h.elim) (fun _ _ => trivial) HO4.out HB4.out HB4.out.size (by rw [List.length_map]; have := HDL.out; omega) ?_); go_loud (intro v8 w8 hR8 hB8 _ _; have HR8 := Lib.hid hR8; have HB8 := Lib.hid hB8; clear hR8 hB8))
        go_roundg (gk - 1)
        case measure => have := HK.out; rw [List.length_cons] at this; omega
        case rel =>
          refine ⟨done ++ [((QA, QN, QC), ql)], rest, AA, c' - 1, by have := HK.out; rw [List.length_cons] at this; omega, rfl, HPP.out, HHD.out, HB8.out, HRT.out, ?_⟩
          rw [List.map_append]
          exact HR8.out
      · have HSTOP : Hid (∀ y, ((q :: rest).map (fun y : SL × LS => y.2)).head? = some y → ¬ cmp y xl < 0) := Lib.hid (fun y hy => by
          have hy' : q.2 = y := Option.some.inj hy
          rw [← hy', ← HQ.out.2.1]
          exact hr0)
        have HDL := Lib.hid hdl
        clear hdl
        go_upto_region 5 with (go_at_call 54; go_loud (with_reducible refine (rcompare_g wr q ((XA, xl.length, XC), xl) r (HQ.out.2.2.ck (CK.below HBr.out)) (HX.out wr HBr.out) HQ.out.1).mono ?_); rintro e w4 ⟨rfl, hB4⟩; have HTO := Lib.hid (Kd.R_below HO.out hB4); have HTB := Lib.hid (HBr.out.trans (lower_m hB4 HBr.out.size)); clear hB4)
        go_wp2_with (first
          | ((with_reducible refine gate_dst (N := 27) rfl ?_); refine Kd.R_lit kL (w0 := w) w.heap.size 66 ?hg (N := 27) ?hd (xs := ([] : LS)) (inner := []) (ok := fun _ => True) (okp := fun _ => True) ?hr ?hp (fun _ hk => hk) trivial HTB.out HTB.out.size (by simp) ?_; (case hd => rfl); (case hg => rfl); (case hr => first | (go_simp; done) | (go_simp; rfl)); (case hp => exact (Reps.none _ _)); go_loud (intro v27 w6 ho hb hg6 _; have HT6 := Lib.hid (Kd.R_grown HTO.out hg6 (fun k _ => by simp)); have HO6 := Lib.hid ho; have HB6 := Lib.hid hb; clear ho hb hg6))
          | ((with_reducible refine gate_builtin (b := .append) (xs := #[.tmp 27, .tmp 28]) rfl ?_); at_builtin; go_loud (refine Kd.R_append_rows kL (w0 := w) (W := w6) w.heap.size rfl (.tmp 27) (.tmp 28) 61 66 (.agg #[(.string ⟨#[]⟩), (.string ⟨#[]⟩)]) 32 rfl Tryd.underlying61 PMS.info66 rfl (by decide) (by omega) v27 ([] : LS) xl XA xl.length XC (fun _ => True) (fun _ => False) rfl rfl HO6.out (HX.out w6 HB6.out).C (fun _ _ h => h) (fun _ h => h.elim) (fun _ _ => trivial) HB6.out HB6.out.size (by rw [List.length_nil]; omega) ?_); go_loud (intro v29 w7 ho hb hg7 _; rw [List.nil_append] at ho; obtain ⟨A9, c9, e9⟩ := Kd.R_slice ho; subst e9; have HT7 := Lib.hid (Kd.R_over' (v := v27) HT6.out (Kd.R_typed HO6.out) (by decide) hg7); have HO7 := Lib.hid ho; have HB7 := Lib.hid hb; clear ho hb hg7))
          | ((with_reducible refine gate_builtin (b := .append) (xs := #[.tmp 26, .tmp 30]) rfl ?_); at_builtin; go_loud (refine Kd.R_append kV (w0 := w) (W := w7) w.heap.size rfl (.tmp 26) (.tmp 30) 50 61 (.slice none 0 0) 24 rfl Tryd.underlying50 info_ls rfl (by decide) (by decide) (.slice A5 done.length c5) (done.map (fun y : SL × LS => y.1)) (A9, xl.length, c9) [encS (A9, xl.length, c9)] (fun _ => True) (fun _ => False) rfl rfl rfl (fun _ h => h.elim) (fun _ _ => trivial) HT7.out HB7.out HB7.out.size (by rw [List.length_map]; have := HDL.out; omega) ?_); go_loud (intro v31 w8 ho hb hg8 _; have HG8 := Lib.hid hg8; have HO8 := Lib.hid ho; have HB8 := Lib.hid hb; clear ho hb hg8))
          | ((with_reducible refine gate_builtin (b := .append) (xs := #[.tmp 32, .tmp 33]) rfl ?_); at_builtin; go_loud (refine Kd.R_append_rows kV (w0 := w) (W := w8) w.heap.size rfl (.tmp 32) (.tmp 33) 50 61 (.slice none 0 0) 24 rfl Tryd.underlying50 info_ls rfl (by decide) (by decide) v31 (done.map (fun y : SL × LS => y.1) ++ [(A9, xl.length, c9)]) ((q :: rest).map (fun y : SL × LS => y.1)) (some ad) (rest.length + 1) c' (fun _ => True) (fun _ => False) rfl rfl HO8.out (HRL.out.below HB8.out).C (fun _ _ h => h) (fun _ h => h.elim) (fun _ _ => trivial) HB8.out HB8.out.size (by rw [List.length_append, List.length_map, List.length_singleton]; have := HDL.out; (try rw [List.length_cons] at this); omega) ?_); go_loud (intro v34 w9 ho hb hg9 _; have HG9 := Lib.hid hg9; have HO9 := Lib.hid ho; have HB9 := Lib.hid hb; clear ho hb hg9)))
        go_ret
        have hTR7 : TR w7 ((A9, xl.length, c9), xl) := by
          obtain ⟨A2, c2, e2, h2, h3⟩ := Kd.R_reads HO7.out
          obtain ⟨rfl, -, rfl⟩ := Value.slice.inj e2
          refine ⟨⟨rfl, h2, h3⟩, fun hne => ?_⟩
          obtain ⟨g, cap, e3, _, _, cells, hcl⟩ := Kd.R_form HO7.out (List.length_pos_iff.2 hne)
          obtain ⟨rfl, -, -⟩ := Value.slice.inj e3
          exact ⟨_, cells, rfl, hcl⟩
        have hTR9 : TR w9 ((A9, xl.length, c9), xl) := (hTR7.move (fun k cells hc => HG8.out.block k (blk_lt hc) (Kd.R_ne HT7.out hc (by decide)))).move (fun k cells hc => HG9.out.block k (blk_lt hc) (Kd.R_ne HO8.out hc (by decide)))
        refine ⟨_, done ++ ((A9, xl.length, c9), xl) :: (q :: rest), rfl, ?_, ?_, fun p hp => ?_, HB9.out⟩
        · have := HO9.out
          rw [List.append_assoc] at this
          rw [List.map_append, List.map_cons]
          exact this
        · rw [HP.out, List.map_append, List.map_append, putL_app (fun y hy => by
            obtain ⟨p, hp, rfl⟩ := List.mem_map.1 hy
            exact HD.out p hp), putL_stop (fun y hy h => by have := HSTOP.out y hy; omega)]
          rfl
        · rcases List.mem_append.1 hp with hp | hp
          · exact .inl (by rw [HP.out]; exact List.mem_append_left _ hp)
          · rcases List.mem_cons.1 hp with rfl | hp
            · exact .inr hTR9
            · exact .inl (by rw [HP.out]; exact List.mem_append_right _ hp)
end Go.Proofs.YtbpmgaaipkenkaaDoor
end
section
namespace Go.Proofs.YtbpmgaaipkenkaaDoor
open Go Go.RowKit Go.Proofs.YtbpmgaaipkenkaaDoorW.PrintWords Go.Proofs.YtbpmgaaipkenkaaDoorW.PrintLast Go.Proofs.YtbpmgaaipkenkaaDoorW.PrintMore
set_option linter.unusedVariables false
set_option linter.unusedSimpArgs false
attribute [local go_sem ↓] Go.wp_at_zero Go.wp_at_succ
structure RS (base : Nat) (w : World) (v : Value) (qs : List (SL × LS)) : Prop where
  R : kV.R 61 w base (fun _ => True) v (qs.map (fun y : SL × LS => y.1))
  T : ∀ q ∈ qs, TR w q
theorem RS.below {base : Nat} {w w' : World} {v : Value} {qs : List (SL × LS)} (h : RS base w v qs) (hb : Below w.heap.size w w') : RS base w' v qs := ⟨Kd.R_below h.R hb, fun q hq => (h.T q hq).below hb⟩
theorem RS.set {base : Nat} {w : World} {v : Value} {qs : List (SL × LS)} (h : RS base w v qs) {g : Nat} {cs : Array Value} (hg : w.heap[g]? = some (.cells cs 64 (0, 0))) (j : Nat) (u : Value) : RS base (w.setCell ⟨g, j, none⟩ u) v qs :=
  ⟨Kd.R_set h.R hg (fun q hq => by
    have hq' : q ∈ [61] := hq
    rw [List.mem_singleton.1 hq']
    decide) j u, fun q hq => (h.T q hq).move (fun k cells hc => Below.heap_setCell w ⟨g, j, none⟩ u k (fun e => by
    have e' : k = g := e
    rw [e', hg] at hc
    cases hc))⟩
theorem RS.rl {base : Nat} {w : World} {v : Value} {qs : List (SL × LS)} (h : RS base w v qs) : ∃ A c, v = .slice A qs.length c ∧ RL w A c qs := by
  obtain ⟨A, c, e, h1, h2⟩ := Kd.R_reads h.R
  rw [List.length_map] at e h1 h2
  exact ⟨A, c, e, h1, h2, fun q hq => (h.T q hq).rd⟩
theorem rright_g (W : World) (A : Option Addr) (c : Nat) (x : LS) (r : Int) (hC : kL.C W A x.length x) (hc : x.length ≤ c) (h : ∃ k, PMS.manometerref05_Right.f k x = some r) :
    Calls Tryd.prog 46 #[.slice A x.length c] W fun e w' => e = .returned (.int .i64 r) ∧ Below W.heap.size W w' := by
  obtain ⟨k, h⟩ := h
  exact PMS.manometerref05_Right.calls k A c x r W hC hc h
def rstep (cmp : LS → LS → Int) (same : LS → LS → Bool) (s : List LS × Nat) (x : LS) : List LS × Nat := if s.1.any (fun y => same y x) = true then s else (putL cmp x s.1, s.2 + 1)
def radm (cmp : LS → LS → Int) (same : LS → LS → Bool) (l xs : List LS) : List LS × Nat := xs.foldl (rstep cmp same) (l, 0)
theorem putL_perm (cmp : LS → LS → Int) (x : LS) : ∀ l : List LS, (putL cmp x l).Perm (x :: l)
  | [] => List.Perm.refl _
  | y :: l => by
    unfold putL
    split
    · exact ((putL_perm cmp x l).cons y).trans (List.Perm.swap x y l)
    · exact List.Perm.refl _
theorem radm_take (cmp : LS → LS → Int) (same : LS → LS → Bool) (l xs : List LS) (i : Nat) (h : i < xs.length) : radm cmp same l (xs.take (i + 1)) = rstep cmp same (radm cmp same l (xs.take i)) (xs.getD i []) := by
  unfold radm
  rw [List.take_succ_eq_append_getElem h, List.foldl_append, List.getD_eq_getElem?_getD, List.getElem?_eq_getElem h]
  rfl
def RAd (rt : LS → Int) (cmp : LS → LS → Int) (same : LS → LS → Bool) (l xs : List LS) (most n er : Int) (l' : List LS) : Prop :=
  (firstBad rt xs ≠ 0 ∧ n = 0 ∧ er = firstBad rt xs ∧ l' = l) ∨
  (firstBad rt xs = 0 ∧ 0 < (radm cmp same l xs).2 ∧ most < ((radm cmp same l xs).1.length : Int) ∧ n = 0 ∧ er = 5 ∧ l' = l) ∨
  (firstBad rt xs = 0 ∧ ¬ (0 < (radm cmp same l xs).2 ∧ most < ((radm cmp same l xs).1.length : Int)) ∧ n = ((radm cmp same l xs).2 : Int) ∧ er = 0 ∧ l' = (radm cmp same l xs).1)
def RPost (rt : LS → Int) (cmp : LS → LS → Int) (same : LS → LS → Bool) (base g : Nat) (l xs : List LS) (most : Int) (w : World) (e : Ending) (w' : World) : Prop :=
  ∃ (n er : Int) (v : Value) (qs : List (SL × LS)), e = .returned (.tuple #[.int .i64 n, .int .i64 er]) ∧ RAd rt cmp same l xs most n er (qs.map (fun y : SL × LS => y.2)) ∧ w'.heap[g]? = some (.cells #[v] 64 (0, 0)) ∧ RS base w' v qs ∧ Mod (fun k => k = g) w w'
set_option maxRecDepth 20000 in
set_option maxHeartbeats 8000000 in
theorem radmit_calls (w : World) (rt : LS → Int) (cmp : LS → LS → Int) (same : LS → LS → Bool) (base g : Nat) (v0 : Value) (qs0 : List (SL × LS)) (A : Option Addr) (c : Nat) (xs : List LS) (most : Int)
    (hbase : base ≤ w.heap.size) (hg : w.heap[g]? = some (.cells #[v0] 64 (0, 0))) (hS : RS base w v0 qs0) (hC : kLL.C w A xs.length xs)
    (hxl : xs.length ≤ 10000) (hql : qs0.length ≤ 100000) (hm0 : -9223372036854775808 ≤ most) (hm1 : most ≤ 9223372036854775807) (U : LS → Prop) (hUq : ∀ q ∈ qs0, U q.2) (hUx : ∀ x ∈ xs, U x ∧ x.length ≤ 1000000 ∧ ∃ k, PMS.manometerref05_Right.f k x = some (rt x))
    (hUs : ∀ a b, U a → U b → (∃ k, PMS.manometerref05_Same.f k a b = some (same a b)) ∧ ∃ k, PMS.manometerref05_Compare.f k a b = some (cmp a b)) :
    Calls Tryd.prog 33 #[.pointer (some ⟨g, 0, none⟩), .slice A xs.length c, .int .i64 most] w fun e w' => RPost rt cmp same base g (qs0.map (fun y : SL × LS => y.2)) xs most w e w' := by
  have HG := Lib.hid (fun (W : World) (hW : Below w.heap.size w W) => (hW.block g (blk_lt hg)).trans hg)
  have HS := Lib.hid (fun (W : World) (hW : Below w.heap.size w W) => hS.below hW)
  have HX := Lib.hid (fun (W : World) (hW : Below w.heap.size w W) (i : Nat) (hi : i < xs.length) => row_at (Kd.C_below hC hW) hi)
  have HU := Lib.hid (And.intro hUq (And.intro hUx hUs))
  have HM := Lib.hid (And.intro hm0 hm1)
  have HBS := Lib.hid hbase
  clear hg hS hC hUq hUx hUs hm0 hm1 hbase
  go_enter Tryd.func33, Tryd.ntmps33
  go_wp2
  go_loopg [17] xs.length (fun kq s17 wr => ∃ i : Nat, i + kq = xs.length ∧ s17 = .int .i64 (i : Int) ∧ Hid (Below w.heap.size w wr) ∧ Hid (∀ j, j < i → rt (xs.getD j []) = 0))
  case atStart => exact ⟨0, by omega, rfl, Below.refl _ _, fun j hj => absurd hj (by omega)⟩
  case round =>
    obtain ⟨i, hi, rfl, hBr, HZ⟩ := hrel
    by_cases hlt : i < xs.length
    · obtain ⟨ad, Ai, ci, hA, hcell, hci, hCi⟩ := HX.out wr hBr.out i hlt
      subst hA
      obtain ⟨x, hx⟩ : ∃ x, x = xs.getD i [] := ⟨_, rfl⟩
      rw [← hx] at hcell hci hCi
      have hmem : x ∈ xs := by
        rw [hx, List.getD_eq_getElem?_getD, List.getElem?_eq_getElem hlt]
        exact List.getElem_mem hlt
      obtain ⟨r0, r1, r2⟩ := HU.out.2.1 x hmem
      have HXX := Lib.hid hx
      have HCI := Lib.hid (And.intro hci hCi)
      clear hx hci hCi hmem r0 r1
      obtain ⟨r, hr⟩ : ∃ r, r = rt x := ⟨_, rfl⟩
      rw [← hr] at r2
      have HRR := Lib.hid hr
      have HR2 := Lib.hid r2
      clear hr r2
      by_cases hz : r = 0
      · subst hz
        go_wp2_with (go_at_call 46; (with_reducible refine (rright_g wr Ai ci x 0 HCI.out.2 HCI.out.1 HR2.out).mono ?_); rintro e w3 ⟨rfl, hB3⟩; have HB3 := Lib.hid (hBr.out.trans (lower_m hB3 hBr.out.size)); clear hB3)
        go_roundg (gk - 1)
        case measure => omega
        case rel => exact ⟨i + 1, by omega, rfl, HB3.out, fun j hj => by
          by_cases hji : j < i
          · exact HZ.out j hji
          · obtain rfl : j = i := by omega
            rw [← HXX.out]
            exact HRR.out.symm⟩
      · have HNZ := Lib.hid hz
        go_wp2_with (go_at_call 46; (with_reducible refine (rright_g wr Ai ci x r HCI.out.2 HCI.out.1 HR2.out).mono ?_); rintro e w3 ⟨rfl, hB3⟩; have HB3 := Lib.hid (hBr.out.trans (lower_m hB3 hBr.out.size)); clear hB3)
        go_ret2
        have hbad : firstBad rt xs = r := by
          rw [firstBad_take HZ.out (by omega), List.drop_eq_getElem_cons hlt]
          have e : xs[i] = x := by rw [HXX.out, List.getD_eq_getElem?_getD, List.getElem?_eq_getElem hlt]; rfl
          rw [e]
          simp only [firstBad]
          rw [if_neg (by rw [← HRR.out]; exact HNZ.out), HRR.out]
        exact ⟨0, r, v0, qs0, rfl, .inl ⟨by rw [hbad]; exact HNZ.out, rfl, hbad.symm, rfl⟩, HG.out _ HB3.out, HS.out _ HB3.out, Mod.of_below HB3.out _⟩
    · have hbad : firstBad rt xs = 0 := by
        rw [firstBad_take (i := xs.length) (fun j hj => HZ.out j (by omega)) (Nat.le_refl _), List.drop_length]
        rfl
      have HBAD := Lib.hid hbad
      clear hbad HZ
      have hc0 : wr.cell? ⟨g, 0, none⟩ = some v0 := (blk_cell (HG.out wr hBr.out) 0).trans rfl
      obtain ⟨A0, c0, e0, hRL0⟩ := (HS.out wr hBr.out).rl
      subst e0
      have HRL0 := Lib.hid hRL0
      clear hRL0
      go_upto_region 11 with fail
      obtain ⟨g4, hg4⟩ : ∃ g4, g4 = wr.heap.size := ⟨_, rfl⟩
      obtain ⟨W0, hW0⟩ : ∃ W0, W0 = wr.alloc (.cells #[.slice A0 qs0.length c0] 64) := ⟨_, rfl⟩
      have HB0 : Hid (Below w.heap.size w W0) := Lib.hid (by rw [hW0]; exact below_alloc hBr.out _)
      have HG4 : Hid (W0.heap[g4]? = some (.cells #[.slice A0 qs0.length c0] 64 (0, 0))) := Lib.hid (by rw [hW0, hg4]; exact heap_alloc_new wr _)
      have HG4W : Hid (w.heap.size ≤ g4) := Lib.hid (by rw [hg4]; exact hBr.out.size)
      rw [← hW0, ← hg4]
      clear hW0 hg4 hBr hi hlt hc0
      go_loopg [12, 35] xs.length (fun kq s12 s35 wr => ∃ (i cnt : Nat) (v : Value) (qs : List (SL × LS)), i + kq = xs.length ∧ s35 = .int .i64 (i : Int) ∧ s12 = .int .i64 (cnt : Int) ∧ cnt ≤ i ∧ qs.length ≤ qs0.length + i ∧ Hid (radm cmp same (qs0.map (fun y : SL × LS => y.2)) (xs.take i) = (qs.map (fun y : SL × LS => y.2), cnt)) ∧ Hid (Below w.heap.size w wr) ∧ Hid (wr.heap[g4]? = some (.cells #[v] 64 (0, 0))) ∧ Hid (RS base wr v qs) ∧ Hid (∀ q ∈ qs, U q.2))
      case atStart => exact ⟨0, 0, .slice A0 qs0.length c0, qs0, by omega, rfl, rfl, Nat.le_refl _, by omega, by rw [List.take_zero]; rfl, HB0.out, HG4.out, HS.out _ HB0.out, HU.out.1⟩
      case round =>
        obtain ⟨i, cnt, v, qs, hi, rfl, rfl, hcnt, hqs, HA, hBz, HGz, HRz, HUz⟩ := hrel
        obtain ⟨Av, cv, ev, hRL⟩ := HRz.out.rl
        subst ev
        have HRL := Lib.hid hRL
        clear hRL
        by_cases hlt : i < xs.length
        · obtain ⟨ad, Ai, ci, hA, hcell, hci, hCi⟩ := HX.out wr hBz.out i hlt
          subst hA
          obtain ⟨x, hx⟩ : ∃ x, x = xs.getD i [] := ⟨_, rfl⟩
          rw [← hx] at hcell hci hCi
          have hmem : x ∈ xs := by
            rw [hx, List.getD_eq_getElem?_getD, List.getElem?_eq_getElem hlt]
            exact List.getElem_mem hlt
          obtain ⟨r0, r1, -⟩ := HU.out.2.1 x hmem
          have hst := radm_take cmp same (qs0.map (fun y : SL × LS => y.2)) xs i hlt
          rw [← hx, HA.out] at hst
          have HST := Lib.hid hst
          have HXX := Lib.hid (And.intro hci (And.intro hCi (And.intro r0 r1)))
          clear hx hci hCi hmem r0 r1 hst
          obtain ⟨r, hr⟩ : ∃ r, r = qs.any (fun p => same p.2 x) := ⟨_, rfl⟩
          have hany : (qs.map (fun y : SL × LS => y.2)).any (fun y => same y x) = r := by rw [hr, List.any_map]; rfl
          have hcall := fun (W : World) (hW : Below wr.heap.size wr W) => rhas_calls W g4 Av cv qs ((Ai, x.length, ci), x) (fun y => same y x) ((hW.block g4 (blk_lt HGz.out)).trans HGz.out) (HRL.out.below hW) ⟨rfl, HXX.out.1, C_ck (CK.below hW) HXX.out.2.1⟩ (by omega) (fun p hp => (HU.out.2.2 p.2 x (HUz.out p hp) HXX.out.2.2.1).1)
          simp only [← hr] at hcall
          have HCALL := Lib.hid hcall
          have HANY := Lib.hid hany
          clear hcall hr hany
          rcases r with _ | _
          · go_upto_region 14 with (go_at_call 36; go_loud (with_reducible refine (HCALL.out wr (Below.refl _ _)).mono ?_); rintro e w5 ⟨rfl, hB5⟩; have HB5a := Lib.hid hB5; have HB5 := Lib.hid (hBz.out.trans (lower_m hB5 hBz.out.size)); clear hB5)
            have hg5 := (HB5a.out.block g4 (blk_lt HGz.out)).trans HGz.out
            have hc5 : w5.cell? ⟨g4, 0, none⟩ = some (.slice Av qs.length cv) := (blk_cell hg5 0).trans rfl
            have HG5 := Lib.hid hg5
            have HRS5 := Lib.hid (HRz.out.below HB5a.out)
            clear hg5
            go_wp2_with (go_at_call 47; go_loud (with_reducible refine (put_calls w5 cmp Av cv qs ((Ai, x.length, ci), x) (HRL.out.below HB5a.out) ⟨rfl, HXX.out.1, C_ck (CK.below HB5a.out) HXX.out.2.1⟩ (by omega) HXX.out.2.2.2 (fun p hp => (HU.out.2.2 p.2 x (HUz.out p hp) HXX.out.2.2.1).2)).mono ?_); intro e w6 hp; obtain ⟨v6, qs6, rfl, hR6, hm6, ht6, hB6⟩ := hp; obtain ⟨A6, c6, e6⟩ := Kd.R_slice hR6; rw [List.length_map] at e6; subst e6; have hg6 := (hB6.block g4 (blk_lt HG5.out)).trans HG5.out; have hc6 : w6.cell? ⟨g4, 0, none⟩ = some (.slice Av qs.length cv) := (blk_cell hg6 0).trans rfl; have hz6 := blk_frozen hg6 0; have HG6 := Lib.hid hg6; have HRS6 : Hid (RS base w6 (.slice A6 qs6.length c6) qs6) := Lib.hid ⟨Kd.R_lower hR6 (Nat.le_trans HBS.out HB5.out.size), fun q hq => by
              rcases ht6 q hq with h | h
              · exact (HRS5.out.T q h).below hB6
              · exact h⟩; have HM6 := Lib.hid hm6; have HB6 := Lib.hid (HB5.out.trans (lower_m hB6 HB5.out.size)); clear hR6 hm6 ht6 hB6 hg6)
            go_roundg (gk - 1)
            case measure => omega
            case rel =>
              have hlen : qs6.length = qs.length + 1 := by
                have h1 := congrArg List.length HM6.out
                rw [List.length_map, (putL_perm cmp x _).length_eq, List.length_cons, List.length_map] at h1
                exact h1
              refine ⟨i + 1, cnt + 1, .slice A6 qs6.length c6, qs6, by omega, by go_num, by go_num, by omega, by omega, ?_, HB6.out.setCell (p := ⟨g4, 0, none⟩) HG4W.out _, blk_put HG6.out 0 _ rfl, HRS6.out.set HG6.out 0 _, ?_⟩
              · show radm cmp same (qs0.map (fun y : SL × LS => y.2)) (xs.take (i + 1)) = _
                rw [HST.out]
                unfold rstep
                rw [if_neg (fun h => absurd ((show false = _ from HANY.out.symm).trans h) (by decide)), ← HM6.out]
              · intro q hq
                have h1 : q.2 ∈ putL cmp x (qs.map (fun y : SL × LS => y.2)) := by rw [← HM6.out]; exact List.mem_map.2 ⟨q, hq, rfl⟩
                rcases List.mem_cons.1 ((putL_perm cmp x _).mem_iff.1 h1) with h | h
                · rw [h]; exact HXX.out.2.2.1
                · obtain ⟨p, hp, e⟩ := List.mem_map.1 h
                  rw [← e]
                  exact HUz.out p hp
          · go_wp2_with (go_at_call 36; go_loud (with_reducible refine (HCALL.out wr (Below.refl _ _)).mono ?_); rintro e w5 ⟨rfl, hB5⟩; have HB5a := Lib.hid hB5; have HB5 := Lib.hid (hBz.out.trans (lower_m hB5 hBz.out.size)); clear hB5)
            go_roundg (gk - 1)
            case measure => omega
            case rel =>
              refine ⟨i + 1, cnt, .slice Av qs.length cv, qs, by omega, by go_num, rfl, by omega, by omega, ?_, HB5.out, (HB5a.out.block g4 (blk_lt HGz.out)).trans HGz.out, HRz.out.below HB5a.out, HUz.out⟩
              show radm cmp same (qs0.map (fun y : SL × LS => y.2)) (xs.take (i + 1)) = _
              rw [HST.out]
              unfold rstep
              rw [if_pos (show _ = true from HANY.out)]
        · have HT : Hid (radm cmp same (qs0.map (fun y : SL × LS => y.2)) xs = (qs.map (fun y : SL × LS => y.2), cnt)) := Lib.hid (by
            have := HA.out
            rwa [List.take_of_length_le (by omega)] at this)
          clear HA
          have hcz : wr.cell? ⟨g4, 0, none⟩ = some (.slice Av qs.length cv) := (blk_cell HGz.out 0).trans rfl
          have hgw := HG.out wr hBz.out
          have hcg : wr.cell? ⟨g, 0, none⟩ = some (.slice A0 qs0.length c0) := (blk_cell hgw 0).trans rfl
          have hfg := blk_frozen hgw 0
          have HGW := Lib.hid hgw
          clear hgw
          obtain ⟨m1, m2⟩ := HM.out
          have hq3 : qs.length ≤ 1000000 := by omega
          by_cases hc1 : 0 < cnt
          · by_cases hc2 : most < (qs.length : Int)
            · have HC12 := Lib.hid (And.intro hc1 hc2)
              go_wp2
              go_ret2
              refine ⟨0, 5, .slice A0 qs0.length c0, qs0, rfl, .inr (.inl ⟨HBAD.out, ?_, ?_, rfl, rfl, rfl⟩), HGW.out, HS.out wr hBz.out, Mod.of_below hBz.out _⟩
              · rw [HT.out]
                exact HC12.out.1
              · rw [HT.out, List.length_map]
                exact HC12.out.2
            · have HC12 := Lib.hid hc2
              go_wp2
              go_ret2
              refine ⟨(cnt : Int), 0, .slice Av qs.length cv, qs, rfl, .inr (.inr ⟨HBAD.out, ?_, by rw [HT.out], rfl, by rw [HT.out]⟩), blk_put HGW.out 0 _ rfl, HRz.out.set HGW.out 0 _, Mod.setCell (S := fun k => k = g) (p := ⟨g, 0, none⟩) (Mod.of_below hBz.out _) (.inl rfl) _⟩
              rw [HT.out]
              intro h
              have h1 : 0 < cnt := h.1
              have h2 : most < ((qs.map (fun y : SL × LS => y.2)).length : Int) := h.2
              rw [List.length_map] at h2
              have h3 := HC12.out
              omega
          · have HC12 := Lib.hid hc1
            go_wp2
            go_ret2
            refine ⟨(cnt : Int), 0, .slice Av qs.length cv, qs, rfl, .inr (.inr ⟨HBAD.out, ?_, by rw [HT.out], rfl, by rw [HT.out]⟩), blk_put HGW.out 0 _ rfl, HRz.out.set HGW.out 0 _, Mod.setCell (S := fun k => k = g) (p := ⟨g, 0, none⟩) (Mod.of_below hBz.out _) (.inl rfl) _⟩
            rw [HT.out]
            intro h
            have h1 : 0 < cnt := h.1
            have h2 : most < ((qs.map (fun y : SL × LS => y.2)).length : Int) := h.2
            rw [List.length_map] at h2
            have h3 := HC12.out
            omega
end Go.Proofs.YtbpmgaaipkenkaaDoor
end
