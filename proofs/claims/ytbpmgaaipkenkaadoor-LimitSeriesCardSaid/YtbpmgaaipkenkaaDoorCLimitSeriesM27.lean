import Derived.Test.YtbpmgaaipkenkaaDoorCLimitSeriesM24
namespace Go.Proofs.YtbpmgaaipkenkaaDoor
open Go Go.RowKit Go.Proofs.YtbpmgaaipkenkaaDoorW.PrintWords Go.Proofs.YtbpmgaaipkenkaaDoorW.PrintLast Go.Proofs.YtbpmgaaipkenkaaDoorW.PrintMore
set_option linter.unusedVariables false
set_option linter.unusedSimpArgs false
attribute [local go_sem ↓] Go.wp_at_zero Go.wp_at_succ
set_option maxRecDepth 20000 in
set_option maxHeartbeats 8000000 in
theorem same_calls (w : World) (rt : LS → Int) (nm : LS → ByteArray) (cmp : LS → LS → Int) (g b : Nat) (l : List PV) (g3 : Nat) (A3 : Option Addr) (c3 : Nat) (ps : List (SL × LS))
    (hg : w.heap[g]? = some (.cells #[.map (some b)] 72 (0, 0))) (hb : SM w b l) (hent : ∀ p ∈ l, Ent rt nm w p) (hll : l.length ≤ 1000000)
    (hlen : ∀ x : LS, rt x = 0 → x.length < 4398046511104) (hcmp : ∀ x y : LS, rt x = 0 → rt y = 0 → ∃ k, PMS.labels_Compare.f k x y = some (cmp x y))
    (h3 : w.heap[g3]? = some (.cells #[.slice A3 ps.length c3] 64 (0, 0))) (hR : RL w A3 c3 ps)
    (sm : LS → LS → Bool) (hsm : ∀ x, rt x = 0 → sm x x = true ∧ (∃ k, PMS.manometerref05_Same.f k x x = some true) ∧ ∀ y, rt y = 0 → ∃ k, PMS.labels_Same.f k y x = some (sm y x)) (hinj : ∀ x y, rt x = 0 → rt y = 0 → nm x = nm y → x = y)
    (hpl0 : ps.length ≤ 1000000) (heq : ∀ qs : List (SL × LS), (qs.map (fun y : SL × LS => nm y.2)).Perm (l.map (·.1)) → (∀ q ∈ qs, rt q.2 = 0) → (srt cmp qs).map (fun y : SL × LS => y.2) = ps.map (fun y : SL × LS => y.2)) :
    Calls Tryd.prog 34 #[.pointer (some ⟨g, 0, none⟩), .pointer (some ⟨g3, 0, none⟩)] w fun e w' => e = .returned (.bool true) ∧ Below w.heap.size w w' := by
  have HG := Lib.hid (fun (W : World) (hW : Below w.heap.size w W) => (hW.block g (blk_lt hg)).trans hg)
  have HB := Lib.hid (fun (W : World) (hW : Below w.heap.size w W) => hb.below hW)
  have HE := Lib.hid (fun (W : World) (hW : Below w.heap.size w W) => fun p hp => (hent p hp).ck (CK.below hW))
  have HC3 := Lib.hid (fun (W : World) (hW : Below w.heap.size w W) => (CK.below hW ⟨g3, 0, none⟩ _ ((blk_cell h3 0).trans rfl) : W.cell? ⟨g3, 0, none⟩ = some (.slice A3 ps.length c3)))
  have HR := Lib.hid (fun (W : World) (hW : Below w.heap.size w W) => hR.below hW)
  have HEQ := Lib.hid heq
  have HF := Lib.hid (And.intro hlen hcmp)
  have HSI := Lib.hid (And.intro hsm hinj)
  clear hg hb hent h3 hR heq hlen hcmp hsm hinj
  go_enter Tryd.func34, Tryd.ntmps34
  go_upto_region 2 with (go_at_call 31; go_loud (with_reducible refine (list_calls w rt nm cmp g b l (HG.out w (Below.refl _ w)) (HB.out w (Below.refl _ w)) (HE.out w (Below.refl _ w)) hll HF.out.1 HF.out.2).mono ?_); rintro e w2 ⟨v, qs, ss, rfl, hss, hnm, hRR, hTR, hB2⟩; have HQ := Lib.hid (And.intro hss (And.intro hnm (And.intro hRR hTR))); have HB2 := Lib.hid hB2; clear hB2 hss hnm hRR hTR)
  obtain ⟨A2, c2, e2⟩ := Kd.R_slice HQ.out.2.2.1
  rw [List.length_map] at e2
  subst e2
  have hmap : ss.map (fun y : SL × LS => y.2) = ps.map (fun y : SL × LS => y.2) := by
    rw [HQ.out.1]
    refine HEQ.out qs HQ.out.2.1 (fun q hq => ?_)
    exact (HQ.out.2.2.2 q (by rw [HQ.out.1]; exact (srt_perm cmp qs []).mem_iff.2 (by simpa using hq))).2
  have hsl : ss.length = ps.length := by
    have := congrArg List.length hmap
    rwa [List.length_map, List.length_map] at this
  have hpl : ps.length = l.length := by
    rw [← hsl, HQ.out.1, srt_length]
    have := HQ.out.2.1.length_eq
    rwa [List.length_map, List.length_map] at this
  have HMAP := Lib.hid hmap
  have HPL := Lib.hid hpl
  rw [hsl]
  clear hmap hsl hpl
  have hc2 : w2.drew.cell? ⟨g3, 0, none⟩ = some (.slice A3 ps.length c3) := HC3.out w2 HB2.out
  have HBd := Lib.hid (below_drew1 HB2.out)
  refine start_ (n := 18) (S := fun w' => w'.cell? ⟨g3, 0, none⟩ = some (.slice A3 ps.length c3)) (ds := []) #[false, false, false, false, false, false, false, false, false, false, false, false, false, false, false, false, false, false] (by kernel_rfl) rfl rfl (hc2) (fun hHeld => ?_)
  refine pure_ (i := 0) (N := some 9) (v := ?_) (a' := ?_) #[true, false, false, false, false, false, false, false, false, false, false, false, false, false, false, false, false, false] rfl rfl (by kernel_rfl) (fun _ _ _ h => h) (Or.inl ⟨by rfl, ?_⟩) ?_ ?_
  rotate_left
  · intro w'
    go_simp
    with_reducible rfl
  rotate_left
  · simp only [Act.put, List.setIfInBounds_toArray, List.set_cons_zero, List.set_cons_succ, i64_w, i32_w]
    rfl
  refine pure_ (i := 1) (N := some 10) (v := ?_) (a' := ?_) #[true, true, false, false, false, false, false, false, false, false, false, false, false, false, false, false, false, false] rfl rfl (by kernel_rfl) (fun _ _ _ h => h) (Or.inl ⟨by rfl, ?_⟩) ?_ ?_
  rotate_left
  · intro w'
    go_simp
    with_reducible rfl
  rotate_left
  · simp only [Act.put, List.setIfInBounds_toArray, List.set_cons_zero, List.set_cons_succ, i64_w, i32_w]
    rfl
  refine pure_ (i := 2) (N := some 11) (v := ?_) (a' := ?_) #[true, true, true, false, false, false, false, false, false, false, false, false, false, false, false, false, false, false] rfl rfl (by kernel_rfl) (fun _ _ _ h => h) (Or.inl ⟨by rfl, ?_⟩) ?_ ?_
  rotate_left
  · intro w'
    go_simp
    with_reducible rfl
  rotate_left
  · simp only [Act.put, List.setIfInBounds_toArray, List.set_cons_zero, List.set_cons_succ, i64_w, i32_w]
    rfl
  refine pure_ (i := 3) (N := some 12) (v := ?_) (a' := ?_) #[true, true, true, true, false, false, false, false, false, false, false, false, false, false, false, false, false, false] rfl rfl (by kernel_rfl) (fun _ _ _ h => h) (Or.inl ⟨by rfl, ?_⟩) ?_ ?_
  rotate_left
  · intro w'
    go_simp
    with_reducible rfl
  rotate_left
  · simp only [Act.put, List.setIfInBounds_toArray, List.set_cons_zero, List.set_cons_succ, i64_w, i32_w]
    rfl
  refine pure_ (i := 4) (N := some 13) (v := ?_) (a' := ?_) #[true, true, true, true, true, false, false, false, false, false, false, false, false, false, false, false, false, false] rfl rfl (by kernel_rfl) (fun _ _ _ h => h) (Or.inl ⟨by rfl, ?_⟩) ?_ ?_
  rotate_left
  · intro w'
    go_simp
    with_reducible rfl
  rotate_left
  · simp only [Act.put, List.setIfInBounds_toArray, List.set_cons_zero, List.set_cons_succ, i64_w, i32_w]
    rfl
  refine take_ (i := 5) (N := some 14) (v := ?_) (a' := ?_) #[true, true, true, true, true, true, false, false, false, false, false, false, false, false, false, false, false, false] rfl rfl (by kernel_rfl) (fun _ _ _ h => h) (Or.inl ⟨by rfl, ?_⟩) hHeld ?_ ?_
  rotate_left
  · intro w' s0
    go_simp
    with_reducible rfl
  rotate_left
  · simp only [Act.put, List.setIfInBounds_toArray, List.set_cons_zero, List.set_cons_succ, i64_w, i32_w]
    rfl
  refine pure_ (i := 6) (N := some 15) (v := ?_) (a' := ?_) #[true, true, true, true, true, true, true, false, false, false, false, false, false, false, false, false, false, false] rfl rfl (by kernel_rfl) (fun _ _ _ h => h) (Or.inl ⟨by rfl, ?_⟩) ?_ ?_
  rotate_left
  · intro w'
    go_simp
    with_reducible rfl
  rotate_left
  · simp only [Act.put, List.setIfInBounds_toArray, List.set_cons_zero, List.set_cons_succ, i64_w, i32_w]
    rfl
  refine pure_ (i := 7) (N := some 16) (v := ?_) (a' := ?_) #[true, true, true, true, true, true, true, true, false, false, false, false, false, false, false, false, false, false] rfl rfl (by kernel_rfl) (fun _ _ _ h => h) (Or.inl ⟨by rfl, ?_⟩) ?_ ?_
  rotate_left
  · intro w'
    go_simp
    with_reducible rfl
  rotate_left
  · simp only [Act.put, List.setIfInBounds_toArray, List.set_cons_zero, List.set_cons_succ, i64_w, i32_w]
    rfl
  refine pure_ (i := 8) (N := some 17) (v := ?_) (a' := ?_) #[true, true, true, true, true, true, true, true, true, false, false, false, false, false, false, false, false, false] rfl rfl (by kernel_rfl) (fun _ _ _ h => h) (Or.inl ⟨by rfl, ?_⟩) ?_ ?_
  rotate_left
  · intro w'
    go_simp
    with_reducible rfl
  rotate_left
  · simp only [Act.put, List.setIfInBounds_toArray, List.set_cons_zero, List.set_cons_succ, i64_w, i32_w]
    rfl
  refine pure_ (i := 9) (N := some 18) (v := ?_) (a' := ?_) #[true, true, true, true, true, true, true, true, true, true, false, false, false, false, false, false, false, false] rfl rfl (by kernel_rfl) (fun _ _ _ h => h) (Or.inl ⟨by rfl, ?_⟩) ?_ ?_
  rotate_left
  · intro w'
    go_simp
    with_reducible rfl
  rotate_left
  · simp only [Act.put, List.setIfInBounds_toArray, List.set_cons_zero, List.set_cons_succ, i64_w, i32_w]
    rfl
  refine pure_ (i := 11) (N := some 20) (v := ?_) (a' := ?_) #[true, true, true, true, true, true, true, true, true, true, false, true, false, false, false, false, false, false] rfl rfl (by kernel_rfl) (fun _ _ _ h => h) (Or.inl ⟨by rfl, ?_⟩) ?_ ?_
  rotate_left
  · intro w'
    go_simp
    with_reducible rfl
  rotate_left
  · simp only [Act.put, List.setIfInBounds_toArray, List.set_cons_zero, List.set_cons_succ, i64_w, i32_w]
    rfl
  refine pure_ (i := 12) (N := some 21) (v := ?_) (a' := ?_) #[true, true, true, true, true, true, true, true, true, true, false, true, true, false, false, false, false, false] rfl rfl (by kernel_rfl) (fun _ _ _ h => h) (Or.inl ⟨by rfl, ?_⟩) ?_ ?_
  rotate_left
  · intro w'
    go_simp
    with_reducible rfl
  rotate_left
  · simp only [Act.put, List.setIfInBounds_toArray, List.set_cons_zero, List.set_cons_succ, i64_w, i32_w]
    rfl
  refine pure_ (i := 13) (N := some 22) (v := ?_) (a' := ?_) #[true, true, true, true, true, true, true, true, true, true, false, true, true, true, false, false, false, false] rfl rfl (by kernel_rfl) (fun _ _ _ h => h) (Or.inl ⟨by rfl, ?_⟩) ?_ ?_
  rotate_left
  · intro w'
    go_simp
    with_reducible rfl
  rotate_left
  · simp only [Act.put, List.setIfInBounds_toArray, List.set_cons_zero, List.set_cons_succ, i64_w, i32_w]
    rfl
  refine take_ (i := 14) (N := some 23) (v := ?_) (a' := ?_) #[true, true, true, true, true, true, true, true, true, true, false, true, true, true, true, false, false, false] rfl rfl (by kernel_rfl) (fun _ _ _ h => h) (Or.inl ⟨by rfl, ?_⟩) hHeld ?_ ?_
  rotate_left
  · intro w' s0
    go_simp
    with_reducible rfl
  rotate_left
  · simp only [Act.put, List.setIfInBounds_toArray, List.set_cons_zero, List.set_cons_succ, i64_w, i32_w]
    rfl
  refine pure_ (i := 15) (N := some 24) (v := ?_) (a' := ?_) #[true, true, true, true, true, true, true, true, true, true, false, true, true, true, true, true, false, false] rfl rfl (by kernel_rfl) (fun _ _ _ h => h) (Or.inl ⟨by rfl, ?_⟩) ?_ ?_
  rotate_left
  · intro w'
    go_simp
    with_reducible rfl
  rotate_left
  · simp only [Act.put, List.setIfInBounds_toArray, List.set_cons_zero, List.set_cons_succ, i64_w, i32_w]
    rfl
  refine one_ (i := 10) (N := some 19) #[true, true, true, true, true, true, true, true, true, true, true, true, true, true, true, true, false, false] rfl rfl (by kernel_rfl) (by decide) (fun K hK => ?_)
  refine goes_ Tryd.func29 (by kernel_rfl) rfl #[.pointer (some ⟨g, 0, none⟩)] (by rfl) rfl rfl (by simp only [List.map_toArray, List.map_cons, List.map_nil]; rfl) ?_
  with_reducible refine (len_g w2.drew g b l (HG.out _ HBd.out) (HB.out _ HBd.out)).mono ?_
  rintro e w3 ⟨rfl, hB3⟩
  refine ⟨_, rfl, ?_⟩
  rw [← HPL.out]
  have hc3 : w3.cell? ⟨g3, 0, none⟩ = some (.slice A3 ps.length c3) := CK.below hB3 _ _ hc2
  have HB3a := Lib.hid hB3
  have HB3 := Lib.hid (HBd.out.trans (lower_m hB3 HBd.out.size))
  clear hB3
  refine hK.out _ _ (hc3) (fun hHeld => ?_)
  clear hK K
  refine norm_ (a' := ?_) ?_ ?_
  rotate_left
  · show Act.put _ (some 19) _ = _
    simp only [Act.put, List.setIfInBounds_toArray, List.set_cons_zero, List.set_cons_succ, i64_w, i32_w]
    rfl
  refine pure_ (i := 16) (N := some 25) (v := ?_) (a' := ?_) #[true, true, true, true, true, true, true, true, true, true, true, true, true, true, true, true, true, false] rfl rfl (by kernel_rfl) (fun _ _ _ h => h) (Or.inl ⟨by rfl, ?_⟩) ?_ ?_
  rotate_left
  · intro w'
    go_simp
    with_reducible rfl
  rotate_left
  · simp only [Act.put, List.setIfInBounds_toArray, List.set_cons_zero, List.set_cons_succ, i64_w, i32_w]
    rfl
  refine pure_ (i := 17) (N := some 26) (v := ?_) (a' := ?_) #[true, true, true, true, true, true, true, true, true, true, true, true, true, true, true, true, true, true] rfl rfl (by kernel_rfl) (fun _ _ _ h => h) (Or.inl ⟨by rfl, ?_⟩) ?_ ?_
  rotate_left
  · intro w'
    go_simp
    with_reducible rfl
  rotate_left
  · simp only [Act.put, List.setIfInBounds_toArray, List.set_cons_zero, List.set_cons_succ, i64_w, i32_w]
    rfl
  refine done_ (by kernel_rfl) ?_
  have HSL0 : Hid (ss.length = ps.length) := Lib.hid (by
    have := congrArg List.length HMAP.out
    rwa [List.length_map, List.length_map] at this)
  have HRS : Hid (RS w.heap.size w2 (.slice A2 ps.length c2) ss) := Lib.hid ⟨by rw [← HSL0.out]; exact HQ.out.2.2.1, fun q hq => (HQ.out.2.2.2 q hq).1⟩
  have HW3 : Hid (Below w2.heap.size w2 w3) := Lib.hid ((below_drew1 (Below.refl _ w2)).trans HB3a.out)
  clear hc3 hc2
  go_wp2
  go_loopg [6, 29] ps.length (fun kq s6 s29 wr => ∃ i : Nat, i + kq = ps.length ∧ s29 = .int .i64 (i : Int) ∧ Hid (Below w2.heap.size w2 wr))
  case atStart => exact ⟨0, by omega, rfl, HW3.out⟩
  case round =>
    obtain ⟨i, hi, rfl, HWr⟩ := hrel
    by_cases hlt : i < ps.length
    · have HBz : Hid (Below w.heap.size w wr.drew) := Lib.hid (below_drew1 (HB2.out.trans (lower_m HWr.out HB2.out.size)))
      have HWd : Hid (Below w2.heap.size w2 wr.drew) := Lib.hid (below_drew1 HWr.out)
      obtain ⟨A9, c9, e9, hRL9⟩ := HRS.out.rl
      obtain ⟨rfl, -, rfl⟩ := Value.slice.inj e9
      obtain ⟨x, hx⟩ : ∃ x, x = ss.getD i ((none, 0, 0), []) := ⟨_, rfl⟩
      obtain ⟨y, hy⟩ : ∃ y, y = ps.getD i ((none, 0, 0), []) := ⟨_, rfl⟩
      have hls : i < ss.length := by rw [HSL0.out]; exact hlt
      obtain ⟨ad, hA, q2⟩ := (hRL9.below HWd.out).at hls ((none, 0, 0), [])
      obtain ⟨ad2, hA2, q3⟩ := (HR.out _ HBz.out).at hlt ((none, 0, 0), [])
      subst hA
      subst hA2
      rw [← hx] at q2
      rw [← hy] at q3
      have q1 := HC3.out _ HBz.out
      have hxm : x ∈ ss := by
        rw [hx, List.getD_eq_getElem?_getD, List.getElem?_eq_getElem hls]
        exact List.getElem_mem hls
      have hym : y ∈ ps := by
        rw [hy, List.getD_eq_getElem?_getD, List.getElem?_eq_getElem hlt]
        exact List.getElem_mem hlt
      have hxy : x.2 = y.2 := by
        have h1 := congrArg (fun z => z[i]?) HMAP.out
        simp only [List.getElem?_map, List.getElem?_eq_getElem hls, List.getElem?_eq_getElem hlt, Option.map_some, Option.some.injEq] at h1
        rw [hx, hy, List.getD_eq_getElem?_getD, List.getD_eq_getElem?_getD, List.getElem?_eq_getElem hls, List.getElem?_eq_getElem hlt]
        exact h1
      have hx0 := (HQ.out.2.2.2 x hxm).2
      have hxk : nm x.2 ∈ l.map (·.1) := by
        have h1 : x ∈ qs := by
          have h2 := hxm
          rw [HQ.out.1] at h2
          simpa using (srt_perm cmp qs []).mem_iff.1 h2
        exact HQ.out.2.1.mem_iff.1 (List.mem_map.2 ⟨x, h1, rfl⟩)
      have HXR := Lib.hid (fun (W : World) (hW : Below w2.heap.size w2 W) => ((hRL9.below hW).R x hxm))
      have HYR := Lib.hid (fun (W : World) (hW : Below w.heap.size w W) => ((HR.out W hW).R y hym))
      have HSM : Hid (∃ k, PMS.manometerref05_Same.f k x.2 y.2 = some true) := Lib.hid (by rw [← hxy]; exact (HSI.out.1 x.2 hx0).2.1)
      have HSL : Hid (∀ z : LS, rt z = 0 → ∃ k, PMS.labels_Same.f k z x.2 = some (sm z x.2)) := Lib.hid (HSI.out.1 x.2 hx0).2.2
      have HTRUE : Hid (∀ r : Bool, (r = false → ∀ p ∈ l, Says rt nm (fun z => sm z x.2) p false) → r = true) := Lib.hid (fun r h => by
        rcases r with _ | _
        · obtain ⟨p, hp, hpk⟩ := List.mem_map.1 hxk
          obtain ⟨ls, l1, l2, l3⟩ := h rfl p hp
          have e := HSI.out.2 ls x.2 l1 hx0 (by rw [l2]; exact hpk)
          have l4 : sm x.2 x.2 = false := by rw [e] at l3; exact l3
          rw [(HSI.out.1 x.2 hx0).1] at l4
          cases l4
        · rfl)
      have hXN := (HXR.out _ HWd.out).len
      clear hx hy hls hxm hym hxy hx0 hxk hRL9 e9
      obtain ⟨⟨XA, XN, XC⟩, xl⟩ := x
      have hXN' : XN = xl.length := hXN
      subst hXN'
      clear hXN
      have h0i : (0 : Int) ≤ (i : Int) := by omega
      have hii : (i : Int) < (ps.length : Int) := by omega
      go_upto_region 7 with fail
      refine start_ (n := 22) (S := fun w' => w'.cell? ⟨g3, 0, none⟩ = some (.slice (some ad2) ps.length c3) ∧ w'.cell? (ad.add i) = some (encS ((XA, xl.length, XC), xl).1) ∧ w'.cell? (ad2.add i) = some (encS y.1)) (ds := []) #[false, false, false, false, false, false, false, false, false, false, false, false, false, false, false, false, false, false, false, false, false, false] (by kernel_rfl) rfl rfl ⟨q1, q2, q3⟩ (fun hHeld => ?_)
      refine pure_ (i := 0) (N := some 32) (v := ?_) (a' := ?_) #[true, false, false, false, false, false, false, false, false, false, false, false, false, false, false, false, false, false, false, false, false, false] rfl rfl (by kernel_rfl) (fun _ _ _ h => h) (Or.inl ⟨by rfl, ?_⟩) ?_ ?_
      rotate_left
      · intro w'
        go_simp
        with_reducible rfl
      rotate_left
      · simp only [Act.put, List.setIfInBounds_toArray, List.set_cons_zero, List.set_cons_succ, i64_w, i32_w]
        rfl
      refine pure_ (i := 1) (N := some 33) (v := ?_) (a' := ?_) #[true, true, false, false, false, false, false, false, false, false, false, false, false, false, false, false, false, false, false, false, false, false] rfl rfl (by kernel_rfl) (fun _ _ _ h => h) (Or.inl ⟨by rfl, ?_⟩) ?_ ?_
      rotate_left
      · intro w'
        go_simp
        with_reducible rfl
      rotate_left
      · simp only [Act.put, List.setIfInBounds_toArray, List.set_cons_zero, List.set_cons_succ, i64_w, i32_w]
        rfl
      refine pure_ (i := 2) (N := some 34) (v := ?_) (a' := ?_) #[true, true, true, false, false, false, false, false, false, false, false, false, false, false, false, false, false, false, false, false, false, false] rfl rfl (by kernel_rfl) (fun _ _ _ h => h) (Or.inl ⟨by rfl, ?_⟩) ?_ ?_
      rotate_left
      · intro w'
        go_simp
        with_reducible rfl
      rotate_left
      · simp only [Act.put, List.setIfInBounds_toArray, List.set_cons_zero, List.set_cons_succ, i64_w, i32_w]
        rfl
      refine pure_ (i := 4) (N := some 36) (v := ?_) (a' := ?_) #[true, true, true, false, true, false, false, false, false, false, false, false, false, false, false, false, false, false, false, false, false, false] rfl rfl (by kernel_rfl) (fun _ _ _ h => h) (Or.inl ⟨by rfl, ?_⟩) ?_ ?_
      rotate_left
      · intro w'
        go_simp
        with_reducible rfl
      rotate_left
      · simp only [Act.put, List.setIfInBounds_toArray, List.set_cons_zero, List.set_cons_succ, i64_w, i32_w]
        rfl
      refine pure_ (i := 5) (N := some 37) (v := ?_) (a' := ?_) #[true, true, true, false, true, true, false, false, false, false, false, false, false, false, false, false, false, false, false, false, false, false] rfl rfl (by kernel_rfl) (fun _ _ _ h => h) (Or.inl ⟨by rfl, ?_⟩) ?_ ?_
      rotate_left
      · intro w'
        go_simp
        with_reducible rfl
      rotate_left
      · simp only [Act.put, List.setIfInBounds_toArray, List.set_cons_zero, List.set_cons_succ, i64_w, i32_w]
        rfl
      refine pure_ (i := 6) (N := some 38) (v := ?_) (a' := ?_) #[true, true, true, false, true, true, true, false, false, false, false, false, false, false, false, false, false, false, false, false, false, false] rfl rfl (by kernel_rfl) (fun _ _ _ h => h) (Or.inl ⟨by rfl, ?_⟩) ?_ ?_
      rotate_left
      · intro w'
        go_simp
        with_reducible rfl
      rotate_left
      · simp only [Act.put, List.setIfInBounds_toArray, List.set_cons_zero, List.set_cons_succ, i64_w, i32_w]
        rfl
      refine pure_ (i := 8) (N := some 40) (v := ?_) (a' := ?_) #[true, true, true, false, true, true, true, false, true, false, false, false, false, false, false, false, false, false, false, false, false, false] rfl rfl (by kernel_rfl) (fun _ _ _ h => h) (Or.inl ⟨by rfl, ?_⟩) ?_ ?_
      rotate_left
      · intro w'
        go_simp
        with_reducible rfl
      rotate_left
      · simp only [Act.put, List.setIfInBounds_toArray, List.set_cons_zero, List.set_cons_succ, i64_w, i32_w]
        rfl
      refine take_ (i := 3) (N := some 35) (v := ?_) (a' := ?_) #[true, true, true, true, true, true, true, false, true, false, false, false, false, false, false, false, false, false, false, false, false, false] rfl rfl (by kernel_rfl) (fun _ _ _ h => h) (Or.inl ⟨by rfl, ?_⟩) hHeld ?_ ?_
      rotate_left
      · rintro w' ⟨s0, s1, s2⟩
        go_simp
        with_reducible rfl
      rotate_left
      · simp only [Act.put, List.setIfInBounds_toArray, List.set_cons_zero, List.set_cons_succ, i64_w, i32_w]
        rfl
      refine take_ (i := 7) (N := some 39) (v := ?_) (a' := ?_) #[true, true, true, true, true, true, true, true, true, false, false, false, false, false, false, false, false, false, false, false, false, false] rfl rfl (by kernel_rfl) (fun _ _ _ h => h) (Or.inl ⟨by rfl, ?_⟩) hHeld ?_ ?_
      rotate_left
      · rintro w' ⟨s0, s1, s2⟩
        go_simp
        with_reducible rfl
      rotate_left
      · simp only [Act.put, List.setIfInBounds_toArray, List.set_cons_zero, List.set_cons_succ, i64_w, i32_w]
        rfl
      refine pure_ (i := 9) (N := some 41) (v := ?_) (a' := ?_) #[true, true, true, true, true, true, true, true, true, true, false, false, false, false, false, false, false, false, false, false, false, false] rfl rfl (by kernel_rfl) (fun _ _ _ h => h) (Or.inl ⟨by rfl, ?_⟩) ?_ ?_
      rotate_left
      · intro w'
        go_simp
        with_reducible rfl
      rotate_left
      · simp only [Act.put, List.setIfInBounds_toArray, List.set_cons_zero, List.set_cons_succ, i64_w, i32_w]
        rfl
      refine take_ (i := 10) (N := some 42) (v := ?_) (a' := ?_) #[true, true, true, true, true, true, true, true, true, true, true, false, false, false, false, false, false, false, false, false, false, false] rfl rfl (by kernel_rfl) (fun _ _ _ h => h) (Or.inl ⟨by rfl, ?_⟩) hHeld ?_ ?_
      rotate_left
      · rintro w' ⟨s0, s1, s2⟩
        go_simp
        with_reducible rfl
      rotate_left
      · simp only [Act.put, List.setIfInBounds_toArray, List.set_cons_zero, List.set_cons_succ, i64_w, i32_w]
        rfl
      refine one_ (i := 11) (N := some 43) #[true, true, true, true, true, true, true, true, true, true, true, true, false, false, false, false, false, false, false, false, false, false] rfl rfl (by kernel_rfl) (by decide) (fun K hK => ?_)
      refine goes_ Tryd.func48 (by kernel_rfl) rfl #[encS ((XA, xl.length, XC), xl).1, encS y.1] (by rfl) rfl rfl (by simp only [List.map_toArray, List.map_cons, List.map_nil]; rfl) ?_
      with_reducible refine (rsame_g wr.drew ((XA, xl.length, XC), xl) y true (HXR.out _ HWd.out) (HYR.out _ HBz.out) HSM.out).mono ?_
      rintro e w5 ⟨rfl, hB5⟩
      refine ⟨_, rfl, ?_⟩
      have k1 : w5.cell? ⟨g3, 0, none⟩ = some (.slice (some ad2) ps.length c3) := CK.below hB5 _ _ q1
      have k2 : w5.cell? (ad.add i) = some (encS ((XA, xl.length, XC), xl).1) := CK.below hB5 _ _ q2
      have k3 : w5.cell? (ad2.add i) = some (encS y.1) := CK.below hB5 _ _ q3
      have HW5 := Lib.hid (HWd.out.trans (lower_m hB5 HWd.out.size))
      have HB5 := Lib.hid (HBz.out.trans (lower_m hB5 HBz.out.size))
      clear hB5
      refine hK.out _ _ ⟨k1, k2, k3⟩ (fun hHeld => ?_)
      clear hK K
      refine norm_ (a' := ?_) ?_ ?_
      rotate_left
      · show Act.put _ (some 43) _ = _
        simp only [Act.put, List.setIfInBounds_toArray, List.set_cons_zero, List.set_cons_succ, i64_w, i32_w]
        rfl
      refine pure_ (i := 12) (N := some 44) (v := ?_) (a' := ?_) #[true, true, true, true, true, true, true, true, true, true, true, true, true, false, false, false, false, false, false, false, false, false] rfl rfl (by kernel_rfl) (fun _ _ _ h => h) (Or.inl ⟨by rfl, ?_⟩) ?_ ?_
      rotate_left
      · intro w'
        go_simp
        with_reducible rfl
      rotate_left
      · simp only [Act.put, List.setIfInBounds_toArray, List.set_cons_zero, List.set_cons_succ, i64_w, i32_w]
        rfl
      refine pure_ (i := 13) (N := some 45) (v := ?_) (a' := ?_) #[true, true, true, true, true, true, true, true, true, true, true, true, true, true, false, false, false, false, false, false, false, false] rfl rfl (by kernel_rfl) (fun _ _ _ h => h) (Or.inl ⟨by rfl, ?_⟩) ?_ ?_
      rotate_left
      · intro w'
        go_simp
        with_reducible rfl
      rotate_left
      · simp only [Act.put, List.setIfInBounds_toArray, List.set_cons_zero, List.set_cons_succ, i64_w, i32_w]
        rfl
      refine pure_ (i := 14) (N := some 46) (v := ?_) (a' := ?_) #[true, true, true, true, true, true, true, true, true, true, true, true, true, true, true, false, false, false, false, false, false, false] rfl rfl (by kernel_rfl) (fun _ _ _ h => h) (Or.inl ⟨by rfl, ?_⟩) ?_ ?_
      rotate_left
      · intro w'
        go_simp
        with_reducible rfl
      rotate_left
      · simp only [Act.put, List.setIfInBounds_toArray, List.set_cons_zero, List.set_cons_succ, i64_w, i32_w]
        rfl
      refine pure_ (i := 15) (N := some 47) (v := ?_) (a' := ?_) #[true, true, true, true, true, true, true, true, true, true, true, true, true, true, true, true, false, false, false, false, false, false] rfl rfl (by kernel_rfl) (fun _ _ _ h => h) (Or.inl ⟨by rfl, ?_⟩) ?_ ?_
      rotate_left
      · intro w'
        go_simp
        with_reducible rfl
      rotate_left
      · simp only [Act.put, List.setIfInBounds_toArray, List.set_cons_zero, List.set_cons_succ, i64_w, i32_w]
        rfl
      refine pure_ (i := 16) (N := some 48) (v := ?_) (a' := ?_) #[true, true, true, true, true, true, true, true, true, true, true, true, true, true, true, true, true, false, false, false, false, false] rfl rfl (by kernel_rfl) (fun _ _ _ h => h) (Or.inl ⟨by rfl, ?_⟩) ?_ ?_
      rotate_left
      · intro w'
        go_simp
        with_reducible rfl
      rotate_left
      · simp only [Act.put, List.setIfInBounds_toArray, List.set_cons_zero, List.set_cons_succ, i64_w, i32_w]
        rfl
      refine pure_ (i := 17) (N := some 49) (v := ?_) (a' := ?_) #[true, true, true, true, true, true, true, true, true, true, true, true, true, true, true, true, true, true, false, false, false, false] rfl rfl (by kernel_rfl) (fun _ _ _ h => h) (Or.inl ⟨by rfl, ?_⟩) ?_ ?_
      rotate_left
      · intro w'
        go_simp
        with_reducible rfl
      rotate_left
      · simp only [Act.put, List.setIfInBounds_toArray, List.set_cons_zero, List.set_cons_succ, i64_w, i32_w]
        rfl
      refine take_ (i := 18) (N := some 50) (v := ?_) (a' := ?_) #[true, true, true, true, true, true, true, true, true, true, true, true, true, true, true, true, true, true, true, false, false, false] rfl rfl (by kernel_rfl) (fun _ _ _ h => h) (Or.inl ⟨by rfl, ?_⟩) hHeld ?_ ?_
      rotate_left
      · rintro w' ⟨s0, s1, s2⟩
        go_simp
        with_reducible rfl
      rotate_left
      · simp only [Act.put, List.setIfInBounds_toArray, List.set_cons_zero, List.set_cons_succ, i64_w, i32_w]
        rfl
      refine one_ (i := 19) (N := some 51) #[true, true, true, true, true, true, true, true, true, true, true, true, true, true, true, true, true, true, true, true, false, false] rfl rfl (by kernel_rfl) (by decide) (fun K hK => ?_)
      refine goes_ Tryd.func35 (by kernel_rfl) rfl #[.pointer (some ⟨g, 0, none⟩), .slice XA xl.length XC] (by rfl) rfl rfl (by simp only [List.map_toArray, List.map_cons, List.map_nil]; rfl) ?_
      with_reducible refine (has_calls w5 rt nm (fun z => sm z xl) g b l XA XC xl (HG.out _ HB5.out) (HB.out _ HB5.out) (HE.out _ HB5.out) (HXR.out _ HW5.out).C (HXR.out _ HW5.out).le HSL.out).mono ?_
      rintro e w6 ⟨r, rfl, hr1, hr2, hB6⟩
      refine ⟨_, rfl, ?_⟩
      obtain rfl : r = true := HTRUE.out r hr2
      have k4 : w6.cell? ⟨g3, 0, none⟩ = some (.slice (some ad2) ps.length c3) := CK.below hB6 _ _ k1
      have k5 : w6.cell? (ad.add i) = some (encS ((XA, xl.length, XC), xl).1) := CK.below hB6 _ _ k2
      have k6 : w6.cell? (ad2.add i) = some (encS y.1) := CK.below hB6 _ _ k3
      have HW6 := Lib.hid (HW5.out.trans (lower_m hB6 HW5.out.size))
      have HB6 := Lib.hid (HB5.out.trans (lower_m hB6 HB5.out.size))
      clear hB6 hr1 hr2
      refine hK.out _ _ ⟨k4, k5, k6⟩ (fun hHeld => ?_)
      clear hK K
      refine norm_ (a' := ?_) ?_ ?_
      rotate_left
      · show Act.put _ (some 51) _ = _
        simp only [Act.put, List.setIfInBounds_toArray, List.set_cons_zero, List.set_cons_succ, i64_w, i32_w]
        rfl
      refine pure_ (i := 20) (N := some 52) (v := ?_) (a' := ?_) #[true, true, true, true, true, true, true, true, true, true, true, true, true, true, true, true, true, true, true, true, true, false] rfl rfl (by kernel_rfl) (fun _ _ _ h => h) (Or.inl ⟨by rfl, ?_⟩) ?_ ?_
      rotate_left
      · intro w'
        go_simp
        with_reducible rfl
      rotate_left
      · simp only [Act.put, List.setIfInBounds_toArray, List.set_cons_zero, List.set_cons_succ, i64_w, i32_w]
        rfl
      refine pure_ (i := 21) (N := some 53) (v := ?_) (a' := ?_) #[true, true, true, true, true, true, true, true, true, true, true, true, true, true, true, true, true, true, true, true, true, true] rfl rfl (by kernel_rfl) (fun _ _ _ h => h) (Or.inl ⟨by rfl, ?_⟩) ?_ ?_
      rotate_left
      · intro w'
        go_simp
        with_reducible rfl
      rotate_left
      · simp only [Act.put, List.setIfInBounds_toArray, List.set_cons_zero, List.set_cons_succ, i64_w, i32_w]
        rfl
      refine done_ (by kernel_rfl) ?_
      go_wp2
      go_roundg (gk - 1)
      case measure => omega
      case rel => exact ⟨i + 1, by omega, by go_num, HW6.out⟩
    · go_wp2
      go_ret
      exact ⟨rfl, HB2.out.trans (lower_m HWr.out HB2.out.size)⟩
end Go.Proofs.YtbpmgaaipkenkaaDoor
