import Derived.Test.YtmllgglcdlcdhaaDoorCXorNoneYK
import Derived.Test.YtmllgglcdlcdhaaDoorCXorNoneYI
import Derived.Test.YtmllgglcdlcdhaaDoorCXorNoneYF
namespace Go.Proofs.YtmllgglcdlcdhaaDoor.Bq
end Go.Proofs.YtmllgglcdlcdhaaDoor.Bq
namespace Go.Proofs.YtmllgglcdlcdhaaDoor.PXL
open Go Go.RowKit Go.Proofs.YtmllgglcdlcdhaaDoor Go.Proofs.YtmllgglcdlcdhaaDoorW.PrintWords Go.Proofs.YtmllgglcdlcdhaaDoorW.PrintMore Go.Proofs.YtmllgglcdlcdhaaDoorW.PrintLast Bq Xs Go.Proofs.YtmllgglcdlcdhaaDoor.Pu
set_option linter.unusedVariables false
set_option maxRecDepth 100000
set_option linter.unusedSimpArgs false
attribute [local go_sem ↓] Go.wp_at_zero Go.wp_at_succ
theorem t_sum (a b : Int) : IntKind.i64.wrap (a + wrap64 b) = wrap64 (a + b) := by rw [IntKind.wrap_i64]; unfold wrap64; omega
theorem t_sum2 (a b : Int) : wrap64 (a + wrap64 b) = wrap64 (a + b) := by unfold wrap64; omega
theorem w_i64 (a : Int) : IntKind.i64.wrap a = wrap64 a := by rw [IntKind.wrap_i64]; unfold wrap64; omega
theorem st_sum (a : Nat) (d : Int) : wrap64 (wrap64 (a : Int) + d) = wrap64 ((Xs.u64 ((a : Int) + d) : Nat) : Int) := by unfold wrap64 Xs.u64; omega
structure GetSr (w wr : World) (ok : Nat → Prop) (q bq N1 n : Nat) (v : Value) (L : List (Int × Nat)) (s : St) (σ : Sg) (U : Except Int (List (Int × Nat) × List Bool)) : Prop where
  R : Kd.R k39 39 wr N1 (fun k => N1 ≤ k) v (smpB L)
  K : Rr wr ok q σ
  Q : wr.heap[bq]? = some (.cells (winC s.w) 76 (0, 0))
  B : Below w.heap.size w wr
  okb : ∀ k, ok k → k < N1 ∧ k ≠ bq
  lN : N1 ≤ wr.heap.size
  wN : w.heap.size ≤ N1
  qN : w.heap.size ≤ q ∧ q < N1
  bN : w.heap.size ≤ bq ∧ bq < N1 ∧ bq ≠ q
  lL : L.length ≤ 65536
  lst : 0 < L.length → L.getD (L.length - 1) (0, 0) = (s.t, s.v)
  yes : ∀ r, σ = .ok r → L.length ≤ n ∧ s.n = L.length ∧ OkS s ∧ s.w.lead + s.w.trail ≤ 63 ∧ (s.n = 0 → s.step = 0) ∧ U = joinR L (allR (n - L.length) s r)
  no : ∀ e, σ = .error e → U = .error e
theorem getD_snoc (L : List (Int × Nat)) (x : Int × Nat) : (L ++ [x]).getD ((L ++ [x]).length - 1) (0, 0) = x := by
  rw [List.length_append, List.length_singleton, Nat.add_sub_cancel, List.getD_eq_getElem?_getD, List.getElem?_append_right (Nat.le_refl _), Nat.sub_self]
  rfl
theorem next_facts {n : Nat} {L : List (Int × Nat)} {s s' : St} {r : List Bool} {σ' : Sg} {t : Int} {v : Nat} {U : Except Int (List (Int × Nat) × List Bool)} (hX : nextT s (.ok r) = ((t, v), s', σ')) (hlt : L.length < n) (hsn : s.n = L.length) (hO : OkS s) (hw : s.w.lead + s.w.trail ≤ 63) (hst : s.n = 0 → s.step = 0) (hU : U = joinR L (allR (n - L.length) s r)) :
    (∀ r', σ' = .ok r' → (L ++ [(t, v)]).length ≤ n ∧ s'.n = (L ++ [(t, v)]).length ∧ OkS s' ∧ s'.w.lead + s'.w.trail ≤ 63 ∧ (s'.n = 0 → s'.step = 0) ∧ U = joinR (L ++ [(t, v)]) (allR (n - (L ++ [(t, v)]).length) s' r')) ∧ (∀ e, σ' = .error e → U = .error e) := by
  have hNn := nextT_n s (.ok r)
  have hNw := nextT_w s (.ok r) hw
  have hnx : (∀ x s' r', nextR s r = .ok (x, s', r') → nextT s (.ok r) = (x, s', .ok r')) ∧ (∀ e, nextR s r = .error e → (nextT s (.ok r)).2.2 = .error e) := ⟨fun x s' r' h => nextT_ok hst h, fun e h => nextT_no h⟩
  rw [hX] at hNn hNw hnx
  simp only at hNn hNw
  have hU1 : U = joinR L (allR ((n - L.length - 1) + 1) s r) := by rw [show n - L.length - 1 + 1 = n - L.length by omega]; exact hU
  refine ⟨fun r' hr' => ?_, fun e he => ?_⟩
  · have hl1 : (L ++ [(t, v)]).length = L.length + 1 := by rw [List.length_append, List.length_singleton]
    rw [hl1]
    cases hN : nextR s r with
    | error e => have := hnx.2 e hN; rw [hr'] at this; cases this
    | ok z =>
      obtain ⟨x0, s0, r0⟩ := z
      have h7 := hnx.1 x0 s0 r0 hN
      injection h7 with h7 h8
      injection h8 with h8 h9
      rw [hr'] at h9
      injection h9 with h9
      subst h7 h8 h9
      have h6 := (nextR_ok hO hN).2.1
      exact ⟨by omega, by omega, h6, hNw, (fun h => by omega), by rw [hU1, allR_step hN, show n - L.length - 1 = n - (L.length + 1) by omega]⟩
  · cases hN : nextR s r with
    | error e2 => have := hnx.2 e2 hN; rw [he] at this; injection this with this; rw [hU1, allR_no hN, this]
    | ok z =>
      obtain ⟨x0, s0, r0⟩ := z
      have h7 := hnx.1 x0 s0 r0 hN
      injection h7 with h7 h8
      injection h8 with h8 h9
      rw [he] at h9
      cases h9
set_option maxHeartbeats 16000000 in
theorem rget08 (w : World) (A : Option Addr) (c : Nat) (xs : List Int) (hC : (Kd.int .u8).C w A xs.length xs) (hb : Byts xs) (hl : xs.length ≤ 10000) :
    Calls Tryd.prog 17 #[.slice A xs.length c] w fun e w' => ∃ v, e = .returned (.tuple #[v, .int .i64 (getS xs).2]) ∧ Kd.R k39 39 w' w.heap.size (fun _ => True) v (getS xs).1 ∧ Below w.heap.size w w' := by
  have HNR := Lib.hid (rbits_calls w A c xs (8 * xs.length) hC hb (Nat.le_refl _) (by omega))
  have HC := Lib.hid (fun (W : World) (hW : Below w.heap.size w W) => Kd.C_below hC hW)
  clear hC hb
  obtain ⟨bits, hbits⟩ : ∃ bits, bits = bitsOf xs (8 * xs.length) := ⟨_, rfl⟩
  have hbl : bits.length ≤ 80000 := by rw [hbits, bitsOf_length]; omega
  have HBL := Lib.hid hbl
  rw [← hbits] at HNR
  have hgl : getL xs = (match unpackR bits with
    | .error e => .error e
    | .ok (l, _) => if packL l = xs then .ok l else .error 8 : Except Int (List (Int × Nat))) := by rw [hbits]; rfl
  have HGL := Lib.hid hgl
  clear hbits hbl hgl
  have hun : unpackR bits = (match getX 16 bits with
    | .error e => .error e
    | .ok (n, r) => allR n st0 r : Except Int (List (Int × Nat) × List Bool)) := rfl
  obtain ⟨U, hU⟩ : ∃ U, U = unpackR bits := ⟨_, rfl⟩
  have HUO := Lib.hid (fun (l : List (Int × Nat)) (r : List Bool) (h : U = .ok (l, r)) => unpackR_ok (hU.symm.trans h))
  have hG16 := getT_lt 16 (.ok bits)
  have hst : ∀ (n : Nat) (σ : Sg), getT 16 (.ok bits) = (n, σ) → (∀ r, σ = .ok r → U = joinR [] (allR n st0 r)) ∧ (∀ e, σ = .error e → U = .error e) := by
    intro n σ h
    rw [hU, hun]
    cases hx : getX 16 bits with
    | error e =>
      rw [getT_no hx] at h
      injection h with h1 h2
      exact ⟨(fun r hr => by rw [← h2] at hr; cases hr), (fun e2 he => by rw [← h2] at he; injection he with he; rw [he])⟩
    | ok v =>
      obtain ⟨m, r1⟩ := v
      rw [getT_ok hx] at h
      injection h with h1 h2
      exact ⟨(fun r hr => by rw [← h2] at hr; injection hr with hr; rw [joinR_nil, hr, h1]), (fun e2 he => by rw [← h2] at he; cases he)⟩
  rw [← hU] at HGL
  clear hU hun
  have e8 : IntKind.i64.wrap (8 * (xs.length : Int)) = ((8 * xs.length : Nat) : Int) := by rw [IntWalk.i64_in _ (by omega)]; omega
  go_enter Tryd.func17, Tryd.ntmps17
  go_upto_region 2 with (go_at_call 35; go_loud (refine HNR.out.mono ?_); rintro e w1 ⟨v1, rfl, hR1, hB1⟩; obtain ⟨A1, c1, hv1⟩ := Kd.R_slice hR1; obtain ⟨n1, hn1⟩ : ∃ n1, n1 = bits.length := ⟨_, rfl⟩; rw [← hn1] at hv1; subst hv1; have HR1 := Lib.hid hR1; have HB1 := Lib.hid hB1; clear hR1 hB1 hn1)
  obtain ⟨q, hq⟩ : ∃ q, q = w1.heap.size := ⟨_, rfl⟩
  obtain ⟨W2, hW2⟩ : ∃ W2, W2 = w1.alloc (.cells #[.slice A1 n1 c1, .int .i64 0, .int .i64 0] 74) := ⟨_, rfl⟩
  have hB2 : Below w1.heap.size w1 W2 := by rw [hW2]; exact below_alloc (Below.refl _ _) _
  have hs1 := HB1.out.size
  have hk2 : Rr W2 (fun k => k ≠ q ∧ k ≠ q + 1 ∧ k < q + 2) q (.ok bits) := by
    refine ⟨_, bits, 0, ?_, Kd.R_lower (Kd.R_mono (Kd.R_below (Kd.R_bound HR1.out) hB2) (fun k hk => ⟨by have := hk.2.2.1; omega, by have := hk.2.2.1; omega, by have := hk.2.2.1; omega⟩)) (Nat.zero_le _), (fun r hr => ⟨Nat.zero_le _, by injection hr with hr; rw [← hr]; rfl⟩), (by have := HBL.out; omega), (fun h => h.1 rfl), (fun e h => by cases h)⟩
    rw [hW2, hq]
    exact blk_new w1 _
  have hBW : Below w.heap.size w W2 := HB1.out.trans (below_lower hB2 hs1)
  have hqs : q + 1 = W2.heap.size := by rw [hW2, World.size_alloc, hq]
  have hwq : w.heap.size ≤ q := by omega
  rw [← hW2, ← hq]
  have HG := Lib.hid (rrget W2 _ q (.ok bits) hk2 16 16 (fun _ _ => ⟨rfl, by decide, by decide⟩))
  have HBW := Lib.hid hBW
  have HQS := Lib.hid (And.intro hqs hwq)
  clear hW2 hq hB2 hs1 hk2 hBW HR1 HB1 hqs hwq
  generalize getT 16 (.ok bits) = G at HG hst hG16
  obtain ⟨n, σ1⟩ := G
  simp only at HG hG16
  obtain ⟨hst1, hst2⟩ := hst n σ1 rfl
  have HST := Lib.hid (And.intro hst1 hst2)
  clear hst hst1 hst2
  have hn1 : IntKind.i64.wrap (n : Int) = (n : Int) := IntWalk.i64_in _ (by omega)
  go_upto_region 5 with (go_at_call 36; go_loud (refine HG.out.mono ?_); rintro e w3 ⟨rfl, h3, m3⟩; have H3 := Lib.hid h3; have M3 := Lib.hid m3; clear h3 m3)
  obtain ⟨bq, hbq⟩ : ∃ bq, bq = w3.heap.size := ⟨_, rfl⟩
  obtain ⟨W4, hW4⟩ : ∃ W4, W4 = w3.alloc (.cells #[.bool false, .int .i64 0, .int .i64 0] 76) := ⟨_, rfl⟩
  have hB4 : Below w3.heap.size w3 W4 := by rw [hW4]; exact below_alloc (Below.refl _ _) _
  have hB34 : Below w.heap.size w w3 := HBW.out.trans (M3.out.below HBW.out.size (fun k hk => by have := HQS.out.2; omega))
  have hs3 := M3.out.size
  obtain ⟨N1, hN1⟩ : ∃ N1, N1 = W4.heap.size := ⟨_, rfl⟩
  have hNb : N1 = bq + 1 := by rw [hN1, hW4, World.size_alloc, hbq]
  have HS0 : Hid (GetSr w W4 (fun k => k ≠ q ∧ k ≠ bq ∧ k < N1) q bq N1 n (.slice none 0 0) [] st0 σ1 U) := Lib.hid
    ⟨Kd.R_nil _ _ _ _ _, (H3.out.below hB4).back (fun k hk => ⟨hk.1, by have := HQS.out.1; omega, by have := HQS.out.1; omega⟩) (fun h => h.1 rfl), by rw [hW4, hbq]; exact blk_new w3 _, hB34.trans (below_lower hB4 hB34.size), (fun k hk => ⟨hk.2.2, hk.2.1⟩), Nat.le_of_eq hN1, (by have := HQS.out; omega), (by have := HQS.out; omega), (by have := HQS.out; omega), (by decide), (fun h => absurd h (by decide)), (fun r hr => ⟨Nat.zero_le _, rfl, st0_ok, by decide, fun _ => rfl, HST.out.1 r hr⟩), HST.out.2⟩
  rw [← hW4, ← hbq]
  clear HG HST H3 M3 HBW hW4 hbq hB4 hB34 hs3 hN1 hNb HQS
  go_wp2
  go_loopg [6, 8, 9] (n + 1) (fun kq s6 s8 s9 wr => ∃ (L : List (Int × Nat)) (s : St) (σ : Sg), s9 = .int .i64 (L.length : Nat) ∧ s8 = .int .i64 (wrap64 (s.step : Nat)) ∧ ((∃ r, σ = .ok r) → L.length + kq = n + 1) ∧ Hid (GetSr w wr (fun k => k ≠ q ∧ k ≠ bq ∧ k < N1) q bq N1 n s6 L s σ U))
  case atStart => exact ⟨[], st0, σ1, rfl, congrArg (Value.int IntKind.i64) (show (0 : Int) = wrap64 ((0 : Nat) : Int) by unfold wrap64; omega), (fun _ => by show 0 + (n + 1) = n + 1; omega), HS0.out⟩
  case round =>
    obtain ⟨L, s, σ, rfl, rfl, hkq, HS⟩ := hrel
    obtain ⟨Av, cv, hv8⟩ := Kd.R_slice HS.out.R
    subst hv8
    have hlL := HS.out.lL
    obtain ⟨m, hm⟩ : ∃ m, m = (smpB L).length := ⟨_, rfl⟩
    have hmL : m = L.length := by rw [hm, smpB_length]
    rw [← hm]
    have HM := Lib.hid hm
    have HML := Lib.hid hmL
    obtain ⟨i, hi⟩ : ∃ i, i = L.length := ⟨_, rfl⟩
    rw [← hi] at hkq hlL ⊢
    have HI := Lib.hid hi
    obtain ⟨sp, hsp⟩ : ∃ sp, sp = wrap64 (s.step : Nat) := ⟨_, rfl⟩
    rw [← hsp]
    have HSP := Lib.hid hsp
    clear hm hmL hi hsp
    cases σ with
    | error e =>
      have c8 : wr.cell? ⟨q, 2, none⟩ = some (.int .i64 e) := HS.out.K.err
      have he : e ≠ 0 := HS.out.K.good e rfl
      have be : (e == 0) = false := beq_false_of_ne he
      have hge : getS xs = ([], e) := by
        unfold getS
        rw [HGL.out, HS.out.no e rfl]
      have HGE := Lib.hid hge
      have c9 : wr.drew.cell? ⟨q, 2, none⟩ = some (.int .i64 e) := c8
      clear he hge hkq
      by_cases hlt : i < n
      · go_upto_region 18 with fail
        refine start_ (n := 6) (S := fun w' => w'.cell? ⟨q, 2, none⟩ = some (.int .i64 e)) (ds := []) #[false, false, false, false, false, false] (by kernel_rfl) rfl rfl (c9) (fun hHeld => ?_)
        refine pure_ (i := 0) (N := some 89) (v := ?_) (a' := ?_) #[true, false, false, false, false, false] rfl rfl (by kernel_rfl) (fun _ _ _ h => h) (Or.inl ⟨by rfl, ?_⟩) ?_ ?_
        rotate_left
        · intro w'
          go_simp
          with_reducible rfl
        rotate_left
        · simp only [Act.put, List.setIfInBounds_toArray, List.set_cons_zero, List.set_cons_succ, i64_w, i32_w]
          rfl
        refine pure_ (i := 1) (N := some 90) (v := ?_) (a' := ?_) #[true, true, false, false, false, false] rfl rfl (by kernel_rfl) (fun _ _ _ h => h) (Or.inl ⟨by rfl, ?_⟩) ?_ ?_
        rotate_left
        · intro w'
          go_simp
          with_reducible rfl
        rotate_left
        · simp only [Act.put, List.setIfInBounds_toArray, List.set_cons_zero, List.set_cons_succ, i64_w, i32_w]
          rfl
        refine pure_ (i := 2) (N := some 91) (v := ?_) (a' := ?_) #[true, true, true, false, false, false] rfl rfl (by kernel_rfl) (fun _ _ _ h => h) (Or.inl ⟨by rfl, ?_⟩) ?_ ?_
        rotate_left
        · intro w'
          go_simp
          with_reducible rfl
        rotate_left
        · simp only [Act.put, List.setIfInBounds_toArray, List.set_cons_zero, List.set_cons_succ, i64_w, i32_w]
          rfl
        refine pure_ (i := 4) (N := some 2) (v := ?_) (a' := ?_) #[true, true, true, false, true, false] rfl rfl (by kernel_rfl) (fun _ _ _ h => h) (Or.inl ⟨by rfl, ?_⟩) ?_ ?_
        rotate_left
        · intro w'
          go_simp
          with_reducible rfl
        rotate_left
        · simp only [Act.put, List.setIfInBounds_toArray, List.set_cons_zero, List.set_cons_succ, i64_w, i32_w]
          rfl
        refine take_ (i := 3) (N := some 92) (v := ?_) (a' := ?_) #[true, true, true, true, true, false] rfl rfl (by kernel_rfl) (fun _ _ _ h => h) (Or.inl ⟨by rfl, ?_⟩) hHeld ?_ ?_
        rotate_left
        · intro w' s0
          go_simp
          with_reducible rfl
        rotate_left
        · simp only [Act.put, List.setIfInBounds_toArray, List.set_cons_zero, List.set_cons_succ, i64_w, i32_w]
          rfl
        refine pure_ (i := 5) (N := some 3) (v := ?_) (a' := ?_) #[true, true, true, true, true, true] rfl rfl (by kernel_rfl) (fun _ _ _ h => h) (Or.inl ⟨by rfl, ?_⟩) ?_ ?_
        rotate_left
        · intro w'
          go_simp
          with_reducible rfl
        rotate_left
        · simp only [Act.put, List.setIfInBounds_toArray, List.set_cons_zero, List.set_cons_succ, i64_w, i32_w]
          rfl
        refine done_ (by kernel_rfl) ?_
        go_wp2
        go_ret2
        rw [HGE.out]
        exact ⟨_, rfl, Kd.R_nil _ _ _ _ _, HS.out.B.trans (pw_below_drewN (Below.refl _ _) 1)⟩
      · go_upto_region 18 with fail
        refine start_ (n := 6) (S := fun w' => w'.cell? ⟨q, 2, none⟩ = some (.int .i64 e)) (ds := []) #[false, false, false, false, false, false] (by kernel_rfl) rfl rfl (c9) (fun hHeld => ?_)
        refine pure_ (i := 0) (N := some 89) (v := ?_) (a' := ?_) #[true, false, false, false, false, false] rfl rfl (by kernel_rfl) (fun _ _ _ h => h) (Or.inl ⟨by rfl, ?_⟩) ?_ ?_
        rotate_left
        · intro w'
          go_simp
          with_reducible rfl
        rotate_left
        · simp only [Act.put, List.setIfInBounds_toArray, List.set_cons_zero, List.set_cons_succ, i64_w, i32_w]
          rfl
        refine pure_ (i := 1) (N := some 90) (v := ?_) (a' := ?_) #[true, true, false, false, false, false] rfl rfl (by kernel_rfl) (fun _ _ _ h => h) (Or.inl ⟨by rfl, ?_⟩) ?_ ?_
        rotate_left
        · intro w'
          go_simp
          with_reducible rfl
        rotate_left
        · simp only [Act.put, List.setIfInBounds_toArray, List.set_cons_zero, List.set_cons_succ, i64_w, i32_w]
          rfl
        refine pure_ (i := 2) (N := some 91) (v := ?_) (a' := ?_) #[true, true, true, false, false, false] rfl rfl (by kernel_rfl) (fun _ _ _ h => h) (Or.inl ⟨by rfl, ?_⟩) ?_ ?_
        rotate_left
        · intro w'
          go_simp
          with_reducible rfl
        rotate_left
        · simp only [Act.put, List.setIfInBounds_toArray, List.set_cons_zero, List.set_cons_succ, i64_w, i32_w]
          rfl
        refine pure_ (i := 4) (N := some 2) (v := ?_) (a' := ?_) #[true, true, true, false, true, false] rfl rfl (by kernel_rfl) (fun _ _ _ h => h) (Or.inl ⟨by rfl, ?_⟩) ?_ ?_
        rotate_left
        · intro w'
          go_simp
          with_reducible rfl
        rotate_left
        · simp only [Act.put, List.setIfInBounds_toArray, List.set_cons_zero, List.set_cons_succ, i64_w, i32_w]
          rfl
        refine take_ (i := 3) (N := some 92) (v := ?_) (a' := ?_) #[true, true, true, true, true, false] rfl rfl (by kernel_rfl) (fun _ _ _ h => h) (Or.inl ⟨by rfl, ?_⟩) hHeld ?_ ?_
        rotate_left
        · intro w' s0
          go_simp
          with_reducible rfl
        rotate_left
        · simp only [Act.put, List.setIfInBounds_toArray, List.set_cons_zero, List.set_cons_succ, i64_w, i32_w]
          rfl
        refine pure_ (i := 5) (N := some 3) (v := ?_) (a' := ?_) #[true, true, true, true, true, true] rfl rfl (by kernel_rfl) (fun _ _ _ h => h) (Or.inl ⟨by rfl, ?_⟩) ?_ ?_
        rotate_left
        · intro w'
          go_simp
          with_reducible rfl
        rotate_left
        · simp only [Act.put, List.setIfInBounds_toArray, List.set_cons_zero, List.set_cons_succ, i64_w, i32_w]
          rfl
        refine done_ (by kernel_rfl) ?_
        go_wp2
        go_ret2
        rw [HGE.out]
        exact ⟨_, rfl, Kd.R_nil _ _ _ _ _, HS.out.B.trans (pw_below_drewN (Below.refl _ _) 1)⟩
    | ok r =>
      obtain ⟨y1, y2, y3, y4, y5, y6⟩ := HS.out.yes r rfl
      have hk := hkq ⟨r, rfl⟩
      clear hkq
      have c8 : wr.cell? ⟨q, 2, none⟩ = some (.int .i64 0) := HS.out.K.err
      by_cases hlt : i < n
      · have HNF := Lib.hid (fun (t : Int) (v : Nat) (s' : St) (σ' : Sg) (hX : nextT s (.ok r) = ((t, v), s', σ')) => next_facts (U := U) hX (by rw [← HI.out]; exact hlt) y2 y3 y4 y5 y6)
        have HNW := Lib.hid (nextT_w s (.ok r) y4)
        have HY := Lib.hid (And.intro y3.v y3.step)
        have hsi : s.n = i := by rw [HI.out]; exact y2
        clear y1 y2 y3 y5 y6
        obtain ⟨sn, st, sv, sstep, sw⟩ := s
        simp only at hsi y4
        have hlN := HS.out.lN
        have hqN := HS.out.qN
        have hbN := HS.out.bN
        by_cases hi0 : i = 0
        · subst hi0
          have hsn0 : sn = 0 := hsi
          subst hsn0
          clear hsi
          have HF := Lib.hid (rrfew wr _ q (.ok r) HS.out.K)
          have hub := fewT_bd (.ok r)
          have hN : nextT ⟨0, st, sv, sstep, sw⟩ (.ok r) = ((zagI (fewT (.ok r)).1, (getT 64 (fewT (.ok r)).2).1), ⟨1, zagI (fewT (.ok r)).1, (getT 64 (fewT (.ok r)).2).1, sstep, sw⟩, (getT 64 (fewT (.ok r)).2).2) := rfl
          generalize fewT (.ok r) = F at HF hub hN
          obtain ⟨u, σa⟩ := F
          simp only at HF hub hN
          have HG := Lib.hid (fun (W : World) (hK : Rr W (fun k => k ≠ q ∧ k ≠ bq ∧ k < N1) q σa) => rrget W _ q σa hK 64 64 (fun _ _ => ⟨rfl, by decide, by decide⟩))
          have hvl := getT_lt 64 σa
          generalize getT 64 σa = G at HG hvl hN
          obtain ⟨v, σe⟩ := G
          simp only at HG hvl hN
          have HZ := Lib.hid (fun W => rzag_calls u W hub.1 hub.2)
          obtain ⟨t, ht⟩ : ∃ t, t = zagI u := ⟨_, rfl⟩
          rw [← ht] at hN HZ
          have HX := Lib.hid hN
          clear hN ht
          go_wp2_with fail
          refine HF.out.mono ?_
          rintro e w4 ⟨rfl, h4, m4⟩
          have H4 := Lib.hid h4
          have M4 := Lib.hid m4
          clear h4 m4
          go_wp2_with fail
          refine (HZ.out w4).mono ?_
          rintro e w' ⟨rfl, rfl⟩
          go_wp2_with fail
          refine (HG.out w4 H4.out).mono ?_
          rintro e w5 ⟨rfl, h5, m5⟩
          have H5 := Lib.hid h5
          have M5 := Lib.hid (M4.out.trans m5 (fun _ _ h => h))
          have HR5 := Lib.hid (Kd.R_step HS.out.R (fun k ho hk => M5.out.block k hk (fun h => by omega)))
          have HQ5 := Lib.hid (M5.out.blk HS.out.Q (fun h => hbN.2.2 h))
          have HB5 := Lib.hid (HS.out.B.trans (M5.out.below HS.out.B.size (fun k hk => by omega)))
          have hs5 := M5.out.size
          clear h5 m5
          go_wp2_with (at_builtin; refine Kd.R_append k39 (w0 := w5) (W := w5) N1 rfl (.tmp 42) (.tmp 47) 22 39 (.agg #[.int .i64 0, .int .u64 0]) 16 rfl Tryd.underlying22 info_smp rfl (by decide) (by decide) _ (smpB L) (⟨t, (v : Nat)⟩ : S39) [.int .i64 t, .int .u64 (v : Nat)] (fun k => N1 ≤ k) (fun _ => False) (by rw [HM.out]; rfl) rfl (k39_mkM _ _ _ _) (fun _ h => h.elim) (fun k hk => Nat.le_trans hlN (Nat.le_trans hs5 hk)) HR5.out (Below.refl _ _) (Nat.le_trans hlN hs5) (by rw [← HM.out, HML.out, ← HI.out]; omega) ?_; intro v9 w9 hR9 _ hg9 _; have HR9 := Lib.hid hR9; have HG9 := Lib.hid hg9; clear hR9 hg9)
          go_roundg (gk - 1)
          case measure => omega
          case rel =>
            have hR9 := HR9.out
            rw [show smpB L ++ [(⟨t, (v : Nat)⟩ : S39)] = smpB (L ++ [(t, v)]) from (smpB_snoc L (t, v)).symm] at hR9
            have hm9 : Mod (fun k => N1 ≤ k) w5 w9 := (Mod.refl _ w5).grown HG9.out (fun k hk => .inl (HR5.out.1 k hk))
            obtain ⟨f1, f2⟩ := HNF.out t v ⟨1, t, v, sstep, sw⟩ σe HX.out
            have hll : (L ++ [(t, v)]).length = 0 + 1 := by rw [List.length_append, List.length_singleton, HI.out]
            refine ⟨L ++ [(t, v)], ⟨1, t, v, sstep, sw⟩, σe, by rw [hll]; go_num, (by rw [HSP.out]), (fun _ => by rw [hll]; omega), ⟨hR9, H5.out.kept hm9 (by omega) (fun k ho _ => by have := ho.2.2; omega), (hm9.blk HQ5.out (by omega)), HB5.out.trans (hm9.below HB5.out.size (fun k hk => Nat.le_trans HS.out.wN hk)), HS.out.okb, Nat.le_trans hlN (Nat.le_trans hs5 hm9.size), HS.out.wN, HS.out.qN, HS.out.bN, (by rw [hll]; omega), (fun _ => getD_snoc L (t, v)), f1, f2⟩⟩
        · have hln := HS.out.lst (by rw [← HI.out]; omega)
          rw [← HI.out] at hln
          obtain ⟨j, hj⟩ : ∃ j : Nat, j = i - 1 := ⟨_, rfl⟩
          rw [← hj] at hln
          have hij : IntKind.i64.wrap ((i : Int) - 1) = (j : Int) := by rw [IntWalk.i64_in _ (by omega)]; omega
          have hijw : IntKind.i64.wrap (j : Int) = (j : Int) := IntWalk.i64_in _ (by omega)
          have hij2 : ((i : Int) - 1) = (j : Int) := by omega
          have hjm : j < m := by rw [HML.out, ← HI.out]; omega
          clear hj
          have hi0b : ((i : Int) == 0) = false := beq_false_of_ne (by omega)
          have HJ := Lib.hid (And.intro hij (And.intro hijw (And.intro hij2 hjm)))
          clear hij hijw hij2 hjm
          have HLN := Lib.hid hln
          clear hln
          by_cases hi1 : i = 1
          · have hi1b : ((i : Int) == 1) = true := by rw [hi1]; rfl
            have hsn1 : sn = 1 := by omega
            have HI1 := Lib.hid hi1
            clear hi1
            subst hsn1
            clear hsi
            have HF := Lib.hid (rrfew wr _ q (.ok r) HS.out.K)
            have hub := fewT_bd (.ok r)
            have hN : nextT ⟨1, st, sv, sstep, sw⟩ (.ok r) = ((wrap64 (st + (fewT (.ok r)).1), sv ^^^ (turnT sw (fewT (.ok r)).2).1), ⟨2, wrap64 (st + (fewT (.ok r)).1), sv ^^^ (turnT sw (fewT (.ok r)).2).1, (fewT (.ok r)).1.toNat, (turnT sw (fewT (.ok r)).2).2.1⟩, (turnT sw (fewT (.ok r)).2).2.2) := rfl
            generalize fewT (.ok r) = F at HF hub hN
            obtain ⟨u, σa⟩ := F
            simp only at HF hub hN
            obtain ⟨stp, rfl⟩ := Int.eq_ofNat_of_zero_le hub.1
            rw [Int.toNat_natCast] at hN
            clear hub
            have HTN := Lib.hid (fun (W : World) (hK : Rr W (fun k => k ≠ q ∧ k ≠ bq ∧ k < N1) q σa) => rrturn W _ q σa hK sw y4)
            have hxl := (turnT_bd sw σa y4).1
            generalize turnT sw σa = TT at HTN hxl hN
            obtain ⟨x, w2, σe⟩ := TT
            simp only at HTN hxl hN
            obtain ⟨v, hv2⟩ : ∃ v, v = sv ^^^ x := ⟨_, rfl⟩
            have hxo : Go.bits .xor .u64 (sv : Int) (x : Int) = (v : Int) := by rw [hv2]; exact xor_u sv x HY.out.1 hxl
            rw [← hv2] at hN
            clear hv2
            obtain ⟨t, ht⟩ : ∃ t, t = wrap64 (st + stp) := ⟨_, rfl⟩
            obtain ⟨s8, hs8⟩ : ∃ s8 : Int, s8 = wrap64 (stp : Nat) := ⟨_, rfl⟩
            have HS8 := Lib.hid hs8
            have HW8 : Hid (IntKind.i64.wrap (stp : Int) = s8 ∧ wrap64 (stp : Int) = s8) := Lib.hid ⟨by rw [hs8]; exact w_i64 _, hs8.symm⟩
            have HTT : Hid (IntKind.i64.wrap (st + s8) = t ∧ wrap64 (st + s8) = t) := Lib.hid (by rw [hs8, ht]; exact ⟨t_sum st stp, t_sum2 st stp⟩)
            rw [← ht] at hN
            have HX := Lib.hid hN
            clear hN ht hs8
            obtain ⟨k1, k2⟩ := HW8.out
            go_wp2_with fail
            refine HF.out.mono ?_
            rintro e w4 ⟨rfl, h4, m4⟩
            have H4 := Lib.hid h4
            have M4 := Lib.hid m4
            clear h4 m4
            go_upto_region 14 with fail
            clear k1 k2
            have HQ4 := Lib.hid (M4.out.blk HS.out.Q (fun h => hbN.2.2 h))
            have q0 : w4.cell? ⟨bq, 0, none⟩ = some (.bool sw.set) := (blk_cell HQ4.out 0).trans rfl
            have q1 : w4.cell? ⟨bq, 1, none⟩ = some (.int .i64 (sw.lead : Nat)) := (blk_cell HQ4.out 1).trans rfl
            have q2 : w4.cell? ⟨bq, 2, none⟩ = some (.int .i64 (sw.trail : Nat)) := (blk_cell HQ4.out 2).trans rfl
            go_wp2_with fail
            go_loud (refine (HTN.out w4 H4.out).mono ?_)
            rintro e w5 ⟨rfl, h5, m5⟩
            have H5 := Lib.hid h5
            have M5 := Lib.hid (M4.out.trans m5 (fun _ _ h => h))
            have HQ5 := Lib.hid (m5.blk HQ4.out (fun h => hbN.2.2 h))
            clear h5 m5 q0 q1 q2
            obtain ⟨u0, s0⟩ : ∃ u0, w5.cell? ⟨bq, 0, none⟩ = some u0 := ⟨_, (blk_cell HQ5.out 0).trans rfl⟩
            obtain ⟨u1, s1⟩ : ∃ u1, w5.cell? ⟨bq, 1, none⟩ = some u1 := ⟨_, (blk_cell HQ5.out 1).trans rfl⟩
            obtain ⟨u2, s2⟩ : ∃ u2, w5.cell? ⟨bq, 2, none⟩ = some u2 := ⟨_, (blk_cell HQ5.out 2).trans rfl⟩
            have f0 := blk_frozen HQ5.out 0
            have f1 := blk_frozen HQ5.out 1
            have f2 := blk_frozen HQ5.out 2
            go_upto_region 16 with fail
            obtain ⟨w7, hw7⟩ : ∃ w7, w7 = sets3 w5 bq (.bool w2.set) (.int .i64 (w2.lead : Nat)) (.int .i64 (w2.trail : Nat)) := ⟨_, rfl⟩
            have hm7 : Mod (fun k => k = bq) w5 w7 := by rw [hw7]; exact (((Mod.refl (fun k => k = bq) w5).setCell (p := ⟨bq, 0, none⟩) (.inl rfl) _).setCell (p := ⟨bq, 1, none⟩) (.inl rfl) _).setCell (p := ⟨bq, 2, none⟩) (.inl rfl) _
            have H7 := Lib.hid (H5.out.kept hm7 (fun e => hbN.2.2 e.symm) (fun k ho _ e => ho.2.1 e))
            have HQ7 : Hid (w7.heap[bq]? = some (.cells (winC w2) 76 (0, 0))) := Lib.hid (by rw [hw7]; exact blk_put (blk_put (blk_put HQ5.out 0 _ rfl) 1 _ rfl) 2 _ rfl)
            have HB7 := Lib.hid ((HS.out.B.trans (M5.out.below HS.out.B.size (fun k hk => by omega))).trans (hm7.below (Nat.le_trans HS.out.B.size M5.out.size) (fun k hk => by omega)))
            have HR7 := Lib.hid (Kd.R_step (Kd.R_step HS.out.R (fun k ho hk => M5.out.block k hk (fun h => by omega))) (fun k ho hk => hm7.block k hk (fun h => by omega)))
            have hs7 : wr.heap.size ≤ w7.heap.size := Nat.le_trans M5.out.size hm7.size
            change _root_.Go.Code.wp _ _ _ _ (sets3 w5 bq (.bool w2.set) (.int .i64 (w2.lead : Nat)) (.int .i64 (w2.trail : Nat)))
            rw [← hw7]
            obtain ⟨hij, hijw, hij2, hjm⟩ := HJ.out
            have hrow := Kd.C_get (Kd.R_reads' HR7.out).2.2 z39 (j : Int) (by omega) (by rw [← HM.out]; omega)
            obtain ⟨ad, cc, hAd, _, hK7, hc7⟩ := hrow
            obtain rfl := k39_open hK7
            rw [Int.toNat_natCast] at hc7
            have hgd : (smpB L).getD j z39 = (⟨st, (sv : Nat)⟩ : S39) := by
              have h1 := HLN.out
              have h2 : j < L.length := by rw [← HML.out]; exact hjm
              unfold smpB
              rw [List.getD_eq_getElem?_getD] at h1 ⊢
              rw [List.getElem?_map]
              rw [List.getElem?_eq_getElem h2] at h1 ⊢
              have h3 : L[j] = (st, sv) := h1
              show (⟨L[j].1, ((L[j].2 : Nat) : Int)⟩ : S39) = _
              rw [h3]
            have d0 := hc7 0 _ rfl
            have d1 := hc7 1 _ rfl
            simp only [Int.toNat_natCast, hgd] at d0 d1
            subst hAd
            have p0 : w7.drew.cell? (ad.add (j * 2)) = some (.int .i64 st) := d0
            have p1 : w7.drew.cell? ⟨(ad.add (j * 2)).block, (ad.add (j * 2)).off + 1, none⟩ = some (.int .u64 (sv : Nat)) := by rw [add_next_cell]; exact d1
            clear hw7 hm7 hK7 hc7 hgd d0 d1 s0 s1 s2 f0 f1 f2
            obtain ⟨t1, t2⟩ := HTT.out
            go_upto_region 16 with fail
            refine start_ (n := 21) (S := fun w' => w'.cell? (ad.add (j * 2)) = some (.int .i64 st) ∧ w'.cell? ⟨(ad.add (j * 2)).block, (ad.add (j * 2)).off + 1, none⟩ = some (.int .u64 (sv : Nat))) (ds := [18, 19]) #[false, false, false, false, false, false, false, false, false, false, false, false, false, false, false, false, false, false, false, false, false] (by kernel_rfl) rfl rfl ⟨p0, p1⟩ (fun hHeld => ?_)
            refine pure_ (i := 0) (N := some 64) (v := ?_) (a' := ?_) #[true, false, false, false, false, false, false, false, false, false, false, false, false, false, false, false, false, false, false, false, false] rfl rfl (by kernel_rfl) (fun _ _ _ h => h) (Or.inl ⟨by rfl, ?_⟩) ?_ ?_
            rotate_left
            · intro w'
              go_simp
              with_reducible rfl
            rotate_left
            · simp only [Act.put, List.setIfInBounds_toArray, List.set_cons_zero, List.set_cons_succ, i64_w, i32_w]
              rfl
            refine pure_ (i := 1) (N := some 65) (v := ?_) (a' := ?_) #[true, true, false, false, false, false, false, false, false, false, false, false, false, false, false, false, false, false, false, false, false] rfl rfl (by kernel_rfl) (fun _ _ _ h => h) (Or.inl ⟨by rfl, ?_⟩) ?_ ?_
            rotate_left
            · intro w'
              go_simp
              with_reducible rfl
            rotate_left
            · simp only [Act.put, List.setIfInBounds_toArray, List.set_cons_zero, List.set_cons_succ, i64_w, i32_w]
              rfl
            refine pure_ (i := 2) (N := some 66) (v := ?_) (a' := ?_) #[true, true, true, false, false, false, false, false, false, false, false, false, false, false, false, false, false, false, false, false, false] rfl rfl (by kernel_rfl) (fun _ _ _ h => h) (Or.inl ⟨by rfl, ?_⟩) ?_ ?_
            rotate_left
            · intro w'
              go_simp
              with_reducible rfl
            rotate_left
            · simp only [Act.put, List.setIfInBounds_toArray, List.set_cons_zero, List.set_cons_succ, i64_w, i32_w]
              rfl
            refine pure_ (i := 3) (N := some 67) (v := ?_) (a' := ?_) #[true, true, true, true, false, false, false, false, false, false, false, false, false, false, false, false, false, false, false, false, false] rfl rfl (by kernel_rfl) (fun _ _ _ h => h) (Or.inl ⟨by rfl, ?_⟩) ?_ ?_
            rotate_left
            · intro w'
              go_simp
              with_reducible rfl
            rotate_left
            · simp only [Act.put, List.setIfInBounds_toArray, List.set_cons_zero, List.set_cons_succ, i64_w, i32_w]
              rfl
            refine pure_ (i := 4) (N := some 68) (v := ?_) (a' := ?_) #[true, true, true, true, true, false, false, false, false, false, false, false, false, false, false, false, false, false, false, false, false] rfl rfl (by kernel_rfl) (fun _ _ _ h => h) (Or.inl ⟨by rfl, ?_⟩) ?_ ?_
            rotate_left
            · intro w'
              go_simp
              with_reducible rfl
            rotate_left
            · simp only [Act.put, List.setIfInBounds_toArray, List.set_cons_zero, List.set_cons_succ, i64_w, i32_w]
              rfl
            refine pure_ (i := 5) (N := some 69) (v := ?_) (a' := ?_) #[true, true, true, true, true, true, false, false, false, false, false, false, false, false, false, false, false, false, false, false, false] rfl rfl (by kernel_rfl) (fun _ _ _ h => h) (Or.inl ⟨by rfl, ?_⟩) ?_ ?_
            rotate_left
            · intro w'
              go_simp
              with_reducible rfl
            rotate_left
            · simp only [Act.put, List.setIfInBounds_toArray, List.set_cons_zero, List.set_cons_succ, i64_w, i32_w]
              rfl
            refine pure_ (i := 7) (N := some 71) (v := ?_) (a' := ?_) #[true, true, true, true, true, true, false, true, false, false, false, false, false, false, false, false, false, false, false, false, false] rfl rfl (by kernel_rfl) (fun _ _ _ h => h) (Or.inl ⟨by rfl, ?_⟩) ?_ ?_
            rotate_left
            · intro w'
              go_simp
              with_reducible rfl
            rotate_left
            · simp only [Act.put, List.setIfInBounds_toArray, List.set_cons_zero, List.set_cons_succ, i64_w, i32_w]
              rfl
            refine pure_ (i := 9) (N := some 73) (v := ?_) (a' := ?_) #[true, true, true, true, true, true, false, true, false, true, false, false, false, false, false, false, false, false, false, false, false] rfl rfl (by kernel_rfl) (fun _ _ _ h => h) (Or.inl ⟨by rfl, ?_⟩) ?_ ?_
            rotate_left
            · intro w'
              go_simp
              with_reducible rfl
            rotate_left
            · simp only [Act.put, List.setIfInBounds_toArray, List.set_cons_zero, List.set_cons_succ, i64_w, i32_w]
              rfl
            refine pure_ (i := 10) (N := some 74) (v := ?_) (a' := ?_) #[true, true, true, true, true, true, false, true, false, true, true, false, false, false, false, false, false, false, false, false, false] rfl rfl (by kernel_rfl) (fun _ _ _ h => h) (Or.inl ⟨by rfl, ?_⟩) ?_ ?_
            rotate_left
            · intro w'
              go_simp
              with_reducible rfl
            rotate_left
            · simp only [Act.put, List.setIfInBounds_toArray, List.set_cons_zero, List.set_cons_succ, i64_w, i32_w]
              rfl
            refine pure_ (i := 11) (N := some 75) (v := ?_) (a' := ?_) #[true, true, true, true, true, true, false, true, false, true, true, true, false, false, false, false, false, false, false, false, false] rfl rfl (by kernel_rfl) (fun _ _ _ h => h) (Or.inl ⟨by rfl, ?_⟩) ?_ ?_
            rotate_left
            · intro w'
              go_simp
              with_reducible rfl
            rotate_left
            · simp only [Act.put, List.setIfInBounds_toArray, List.set_cons_zero, List.set_cons_succ, i64_w, i32_w]
              rfl
            refine pure_ (i := 12) (N := some 76) (v := ?_) (a' := ?_) #[true, true, true, true, true, true, false, true, false, true, true, true, true, false, false, false, false, false, false, false, false] rfl rfl (by kernel_rfl) (fun _ _ _ h => h) (Or.inl ⟨by rfl, ?_⟩) ?_ ?_
            rotate_left
            · intro w'
              go_simp
              with_reducible rfl
            rotate_left
            · simp only [Act.put, List.setIfInBounds_toArray, List.set_cons_zero, List.set_cons_succ, i64_w, i32_w]
              rfl
            refine pure_ (i := 13) (N := some 77) (v := ?_) (a' := ?_) #[true, true, true, true, true, true, false, true, false, true, true, true, true, true, false, false, false, false, false, false, false] rfl rfl (by kernel_rfl) (fun _ _ _ h => h) (Or.inl ⟨by rfl, ?_⟩) ?_ ?_
            rotate_left
            · intro w'
              go_simp
              with_reducible rfl
            rotate_left
            · simp only [Act.put, List.setIfInBounds_toArray, List.set_cons_zero, List.set_cons_succ, i64_w, i32_w]
              rfl
            refine pure_ (i := 15) (N := some 79) (v := ?_) (a' := ?_) #[true, true, true, true, true, true, false, true, false, true, true, true, true, true, false, true, false, false, false, false, false] rfl rfl (by kernel_rfl) (fun _ _ _ h => h) (Or.inl ⟨by rfl, ?_⟩) ?_ ?_
            rotate_left
            · intro w'
              go_simp
              with_reducible rfl
            rotate_left
            · simp only [Act.put, List.setIfInBounds_toArray, List.set_cons_zero, List.set_cons_succ, i64_w, i32_w]
              rfl
            refine take_ (i := 6) (N := some 70) (v := ?_) (a' := ?_) #[true, true, true, true, true, true, true, true, false, true, true, true, true, true, false, true, false, false, false, false, false] rfl rfl (by kernel_rfl) (fun _ _ _ h => h) (Or.inl ⟨by rfl, ?_⟩) hHeld ?_ ?_
            rotate_left
            · rintro w' ⟨s0, s1⟩
              go_simp
              with_reducible rfl
            rotate_left
            · simp only [Act.put, List.setIfInBounds_toArray, List.set_cons_zero, List.set_cons_succ, i64_w, i32_w]
              rfl
            refine pure_ (i := 8) (N := some 72) (v := ?_) (a' := ?_) #[true, true, true, true, true, true, true, true, true, true, true, true, true, true, false, true, false, false, false, false, false] rfl rfl (by kernel_rfl) (fun _ _ _ h => h) (Or.inl ⟨by rfl, ?_⟩) ?_ ?_
            rotate_left
            · intro w'
              go_simp
              with_reducible rfl
            rotate_left
            · simp only [Act.put, List.setIfInBounds_toArray, List.set_cons_zero, List.set_cons_succ, i64_w, i32_w]
              rfl
            refine take_ (i := 14) (N := some 78) (v := ?_) (a' := ?_) #[true, true, true, true, true, true, true, true, true, true, true, true, true, true, true, true, false, false, false, false, false] rfl rfl (by kernel_rfl) (fun _ _ _ h => h) (Or.inl ⟨by rfl, ?_⟩) hHeld ?_ ?_
            rotate_left
            · rintro w' ⟨s0, s1⟩
              go_simp
              with_reducible rfl
            rotate_left
            · simp only [Act.put, List.setIfInBounds_toArray, List.set_cons_zero, List.set_cons_succ, i64_w, i32_w]
              rfl
            refine pure_ (i := 16) (N := some 80) (v := ?_) (a' := ?_) #[true, true, true, true, true, true, true, true, true, true, true, true, true, true, true, true, true, false, false, false, false] rfl rfl (by kernel_rfl) (fun _ _ _ h => h) (Or.inl ⟨by rfl, ?_⟩) ?_ ?_
            rotate_left
            · intro w'
              go_simp
              with_reducible rfl
            rotate_left
            · simp only [Act.put, List.setIfInBounds_toArray, List.set_cons_zero, List.set_cons_succ, i64_w, i32_w]
              rfl
            refine pure_ (i := 17) (N := some 81) (v := ?_) (a' := ?_) #[true, true, true, true, true, true, true, true, true, true, true, true, true, true, true, true, true, true, false, false, false] rfl rfl (by kernel_rfl) (fun _ _ _ h => h) (Or.inl ⟨by rfl, ?_⟩) ?_ ?_
            rotate_left
            · intro w'
              go_simp
              with_reducible rfl
            rotate_left
            · simp only [Act.put, List.setIfInBounds_toArray, List.set_cons_zero, List.set_cons_succ, i64_w, i32_w]
              rfl
            refine last_ (i := 18) (N := some 82) #[true, true, true, true, true, true, true, true, true, true, true, true, true, true, true, true, true, true, true, false, false] rfl rfl (by kernel_rfl) (by decide) (fun K hK => ?_)
            refine value_ (w1 := ?_) (v := ?_) (by rfl) rfl ?_ ?_
            rotate_left 2
            · go_simp
              constructor
              · rfl
              · rfl
            refine hK.out _ _ ?_
            clear hK K
            refine norm_ (a' := ?_) ?_ ?_
            rotate_left
            · show Act.put _ (some 82) _ = _
              simp only [Act.put, List.setIfInBounds_toArray, List.set_cons_zero, List.set_cons_succ, i64_w, i32_w]
              rfl
            refine last_ (i := 19) (N := some 83) #[true, true, true, true, true, true, true, true, true, true, true, true, true, true, true, true, true, true, true, true, false] rfl rfl (by kernel_rfl) (by decide) (fun K hK => ?_)
            refine Kd.R_append_step k39 (w0 := w7.drew) (W := w7.drew) N1 (by rfl) (.tmp 64) (.tmp 82) 22 39 (.agg #[.int .i64 0, .int .u64 0]) 16 (by rfl) Tryd.underlying22 info_smp rfl (by decide) (by decide) _ (smpB L) (⟨t, (v : Nat)⟩ : S39) [.int .i64 t, .int .u64 (v : Nat)] (fun k => N1 ≤ k) (fun _ => False) (by rw [HM.out]; rfl) (by rfl) (k39_mkM _ _ _ _) (fun _ h => h.elim) (fun k hk => Nat.le_trans hlN (Nat.le_trans hs7 hk)) (Kd.R_drew HR7.out) (Below.refl _ _) (Nat.le_trans hlN hs7) (by rw [← HM.out, HML.out, ← HI.out]; omega) ?_
            intro v9 w9 hR9 _ hg9 _
            have HR9 := Lib.hid hR9
            have HG9 := Lib.hid hg9
            clear hR9 hg9
            refine hK.out _ _ ?_
            clear hK K
            refine norm_ (a' := ?_) ?_ ?_
            rotate_left
            · show Act.put _ (some 83) _ = _
              simp only [Act.put, List.setIfInBounds_toArray, List.set_cons_zero, List.set_cons_succ, i64_w, i32_w]
              rfl
            refine pure_ (i := 20) (N := some 6) (v := ?_) (a' := ?_) #[true, true, true, true, true, true, true, true, true, true, true, true, true, true, true, true, true, true, true, true, true] rfl rfl (by kernel_rfl) (fun _ _ _ h => h) (Or.inl ⟨by rfl, ?_⟩) ?_ ?_
            rotate_left
            · intro w'
              go_simp
              with_reducible rfl
            rotate_left
            · simp only [Act.put, List.setIfInBounds_toArray, List.set_cons_zero, List.set_cons_succ, i64_w, i32_w]
              rfl
            refine done_ (by kernel_rfl) ?_
            clear t1 t2
            clear p0 p1 hij hijw hij2 hjm
            go_wp2
            have H7d := Lib.hid (H7.out.drewN 1)
            have HQ7d : Hid (w7.drew.heap[bq]? = some (.cells (winC w2) 76 (0, 0))) := HQ7
            have HB7d := Lib.hid (HB7.out.trans (pw_below_drewN (Below.refl _ _) 1))
            have HR7d := Lib.hid (Kd.R_drew HR7.out)
            go_roundg (gk - 1)
            case measure => omega
            case rel =>
              have hR9 := HR9.out
              rw [show smpB L ++ [(⟨t, (v : Nat)⟩ : S39)] = smpB (L ++ [(t, v)]) from (smpB_snoc L (t, v)).symm] at hR9
              have hm9 : Mod (fun k => N1 ≤ k) w7.drew w9 := (Mod.refl _ w7.drew).grown HG9.out (fun k hk => .inl (HR7d.out.1 k hk))
              obtain ⟨f1, f2⟩ := HNF.out t v ⟨2, t, v, stp, w2⟩ σe HX.out
              have hll : (L ++ [(t, v)]).length = i + 1 := by rw [List.length_append, List.length_singleton, HI.out]
              refine ⟨L ++ [(t, v)], ⟨2, t, v, stp, w2⟩, σe, by rw [hll]; go_num, (by rw [HS8.out]), (fun _ => by rw [hll]; omega), ⟨hR9, H7d.out.kept hm9 (by omega) (fun k ho _ => by have := ho.2.2; omega), (hm9.blk HQ7d.out (by omega)), HB7d.out.trans (hm9.below HB7d.out.size (fun k hk => Nat.le_trans HS.out.wN hk)), HS.out.okb, Nat.le_trans hlN (Nat.le_trans hs7 hm9.size), HS.out.wN, HS.out.qN, HS.out.bN, (by rw [hll]; omega), (fun _ => getD_snoc L (t, v)), f1, f2⟩⟩
          · have hi1b : ((i : Int) == 1) = false := beq_false_of_ne (by omega)
            have HF := Lib.hid (rrchange wr _ q (.ok r) HS.out.K)
            have hN : nextT ⟨sn, st, sv, sstep, sw⟩ (.ok r) = ((wrap64 (st + Xs.u64 (sstep + (changeT [0, 14, 17, 20] (.ok r)).1)), sv ^^^ (turnT sw (changeT [0, 14, 17, 20] (.ok r)).2).1),
                ⟨sn + 1, wrap64 (st + Xs.u64 (sstep + (changeT [0, 14, 17, 20] (.ok r)).1)), sv ^^^ (turnT sw (changeT [0, 14, 17, 20] (.ok r)).2).1, Xs.u64 (sstep + (changeT [0, 14, 17, 20] (.ok r)).1), (turnT sw (changeT [0, 14, 17, 20] (.ok r)).2).2.1⟩, (turnT sw (changeT [0, 14, 17, 20] (.ok r)).2).2.2) := by
              unfold nextT
              rw [if_neg (show ¬ sn = 0 by omega), if_neg (show ¬ sn = 1 by omega)]
            have HSI := Lib.hid hsi
            clear hsi
            generalize changeT [0, 14, 17, 20] (.ok r) = F at HF hN
            obtain ⟨dd, σa⟩ := F
            simp only at HF hN
            obtain ⟨stp, hstp⟩ : ∃ stp, stp = Xs.u64 (sstep + dd) := ⟨_, rfl⟩
            rw [← hstp] at hN
            have HTN := Lib.hid (fun (W : World) (hK : Rr W (fun k => k ≠ q ∧ k ≠ bq ∧ k < N1) q σa) => rrturn W _ q σa hK sw y4)
            have hxl := (turnT_bd sw σa y4).1
            generalize turnT sw σa = TT at HTN hxl hN
            obtain ⟨x, w2, σe⟩ := TT
            simp only at HTN hxl hN
            obtain ⟨v, hv2⟩ : ∃ v, v = sv ^^^ x := ⟨_, rfl⟩
            have hxo : Go.bits .xor .u64 (sv : Int) (x : Int) = (v : Int) := by rw [hv2]; exact xor_u sv x HY.out.1 hxl
            rw [← hv2] at hN
            clear hv2
            obtain ⟨t, ht⟩ : ∃ t, t = wrap64 (st + stp) := ⟨_, rfl⟩
            obtain ⟨s8, hs8⟩ : ∃ s8 : Int, s8 = wrap64 (stp : Nat) := ⟨_, rfl⟩
            have HS8 := Lib.hid hs8
            have HW8 : Hid (IntKind.i64.wrap (sp + dd) = s8 ∧ wrap64 (sp + dd) = s8) := Lib.hid (by rw [HSP.out, hs8, hstp]; exact ⟨by rw [w_i64]; exact st_sum sstep dd, st_sum sstep dd⟩)
            have HTT : Hid (IntKind.i64.wrap (st + s8) = t ∧ wrap64 (st + s8) = t) := Lib.hid (by rw [hs8, ht]; exact ⟨t_sum st stp, t_sum2 st stp⟩)
            rw [← ht] at hN
            have HX := Lib.hid hN
            clear hN ht hs8 hstp
            obtain ⟨k1, k2⟩ := HW8.out
            go_wp2_with fail
            refine HF.out.mono ?_
            rintro e w4 ⟨rfl, h4, m4⟩
            have H4 := Lib.hid h4
            have M4 := Lib.hid m4
            clear h4 m4
            go_upto_region 14 with fail
            clear k1 k2
            have HQ4 := Lib.hid (M4.out.blk HS.out.Q (fun h => hbN.2.2 h))
            have q0 : w4.cell? ⟨bq, 0, none⟩ = some (.bool sw.set) := (blk_cell HQ4.out 0).trans rfl
            have q1 : w4.cell? ⟨bq, 1, none⟩ = some (.int .i64 (sw.lead : Nat)) := (blk_cell HQ4.out 1).trans rfl
            have q2 : w4.cell? ⟨bq, 2, none⟩ = some (.int .i64 (sw.trail : Nat)) := (blk_cell HQ4.out 2).trans rfl
            go_wp2_with fail
            go_loud (refine (HTN.out w4 H4.out).mono ?_)
            rintro e w5 ⟨rfl, h5, m5⟩
            have H5 := Lib.hid h5
            have M5 := Lib.hid (M4.out.trans m5 (fun _ _ h => h))
            have HQ5 := Lib.hid (m5.blk HQ4.out (fun h => hbN.2.2 h))
            clear h5 m5 q0 q1 q2
            obtain ⟨u0, s0⟩ : ∃ u0, w5.cell? ⟨bq, 0, none⟩ = some u0 := ⟨_, (blk_cell HQ5.out 0).trans rfl⟩
            obtain ⟨u1, s1⟩ : ∃ u1, w5.cell? ⟨bq, 1, none⟩ = some u1 := ⟨_, (blk_cell HQ5.out 1).trans rfl⟩
            obtain ⟨u2, s2⟩ : ∃ u2, w5.cell? ⟨bq, 2, none⟩ = some u2 := ⟨_, (blk_cell HQ5.out 2).trans rfl⟩
            have f0 := blk_frozen HQ5.out 0
            have f1 := blk_frozen HQ5.out 1
            have f2 := blk_frozen HQ5.out 2
            go_upto_region 16 with fail
            obtain ⟨w7, hw7⟩ : ∃ w7, w7 = sets3 w5 bq (.bool w2.set) (.int .i64 (w2.lead : Nat)) (.int .i64 (w2.trail : Nat)) := ⟨_, rfl⟩
            have hm7 : Mod (fun k => k = bq) w5 w7 := by rw [hw7]; exact (((Mod.refl (fun k => k = bq) w5).setCell (p := ⟨bq, 0, none⟩) (.inl rfl) _).setCell (p := ⟨bq, 1, none⟩) (.inl rfl) _).setCell (p := ⟨bq, 2, none⟩) (.inl rfl) _
            have H7 := Lib.hid (H5.out.kept hm7 (fun e => hbN.2.2 e.symm) (fun k ho _ e => ho.2.1 e))
            have HQ7 : Hid (w7.heap[bq]? = some (.cells (winC w2) 76 (0, 0))) := Lib.hid (by rw [hw7]; exact blk_put (blk_put (blk_put HQ5.out 0 _ rfl) 1 _ rfl) 2 _ rfl)
            have HB7 := Lib.hid ((HS.out.B.trans (M5.out.below HS.out.B.size (fun k hk => by omega))).trans (hm7.below (Nat.le_trans HS.out.B.size M5.out.size) (fun k hk => by omega)))
            have HR7 := Lib.hid (Kd.R_step (Kd.R_step HS.out.R (fun k ho hk => M5.out.block k hk (fun h => by omega))) (fun k ho hk => hm7.block k hk (fun h => by omega)))
            have hs7 : wr.heap.size ≤ w7.heap.size := Nat.le_trans M5.out.size hm7.size
            change _root_.Go.Code.wp _ _ _ _ (sets3 w5 bq (.bool w2.set) (.int .i64 (w2.lead : Nat)) (.int .i64 (w2.trail : Nat)))
            rw [← hw7]
            obtain ⟨hij, hijw, hij2, hjm⟩ := HJ.out
            have hrow := Kd.C_get (Kd.R_reads' HR7.out).2.2 z39 (j : Int) (by omega) (by rw [← HM.out]; omega)
            obtain ⟨ad, cc, hAd, _, hK7, hc7⟩ := hrow
            obtain rfl := k39_open hK7
            rw [Int.toNat_natCast] at hc7
            have hgd : (smpB L).getD j z39 = (⟨st, (sv : Nat)⟩ : S39) := by
              have h1 := HLN.out
              have h2 : j < L.length := by rw [← HML.out]; exact hjm
              unfold smpB
              rw [List.getD_eq_getElem?_getD] at h1 ⊢
              rw [List.getElem?_map]
              rw [List.getElem?_eq_getElem h2] at h1 ⊢
              have h3 : L[j] = (st, sv) := h1
              show (⟨L[j].1, ((L[j].2 : Nat) : Int)⟩ : S39) = _
              rw [h3]
            have d0 := hc7 0 _ rfl
            have d1 := hc7 1 _ rfl
            simp only [Int.toNat_natCast, hgd] at d0 d1
            subst hAd
            have p0 : w7.drew.cell? (ad.add (j * 2)) = some (.int .i64 st) := d0
            have p1 : w7.drew.cell? ⟨(ad.add (j * 2)).block, (ad.add (j * 2)).off + 1, none⟩ = some (.int .u64 (sv : Nat)) := by rw [add_next_cell]; exact d1
            clear hw7 hm7 hK7 hc7 hgd d0 d1 s0 s1 s2 f0 f1 f2
            obtain ⟨t1, t2⟩ := HTT.out
            go_upto_region 16 with fail
            refine start_ (n := 21) (S := fun w' => w'.cell? (ad.add (j * 2)) = some (.int .i64 st) ∧ w'.cell? ⟨(ad.add (j * 2)).block, (ad.add (j * 2)).off + 1, none⟩ = some (.int .u64 (sv : Nat))) (ds := [18, 19]) #[false, false, false, false, false, false, false, false, false, false, false, false, false, false, false, false, false, false, false, false, false] (by kernel_rfl) rfl rfl ⟨p0, p1⟩ (fun hHeld => ?_)
            refine pure_ (i := 0) (N := some 64) (v := ?_) (a' := ?_) #[true, false, false, false, false, false, false, false, false, false, false, false, false, false, false, false, false, false, false, false, false] rfl rfl (by kernel_rfl) (fun _ _ _ h => h) (Or.inl ⟨by rfl, ?_⟩) ?_ ?_
            rotate_left
            · intro w'
              go_simp
              with_reducible rfl
            rotate_left
            · simp only [Act.put, List.setIfInBounds_toArray, List.set_cons_zero, List.set_cons_succ, i64_w, i32_w]
              rfl
            refine pure_ (i := 1) (N := some 65) (v := ?_) (a' := ?_) #[true, true, false, false, false, false, false, false, false, false, false, false, false, false, false, false, false, false, false, false, false] rfl rfl (by kernel_rfl) (fun _ _ _ h => h) (Or.inl ⟨by rfl, ?_⟩) ?_ ?_
            rotate_left
            · intro w'
              go_simp
              with_reducible rfl
            rotate_left
            · simp only [Act.put, List.setIfInBounds_toArray, List.set_cons_zero, List.set_cons_succ, i64_w, i32_w]
              rfl
            refine pure_ (i := 2) (N := some 66) (v := ?_) (a' := ?_) #[true, true, true, false, false, false, false, false, false, false, false, false, false, false, false, false, false, false, false, false, false] rfl rfl (by kernel_rfl) (fun _ _ _ h => h) (Or.inl ⟨by rfl, ?_⟩) ?_ ?_
            rotate_left
            · intro w'
              go_simp
              with_reducible rfl
            rotate_left
            · simp only [Act.put, List.setIfInBounds_toArray, List.set_cons_zero, List.set_cons_succ, i64_w, i32_w]
              rfl
            refine pure_ (i := 3) (N := some 67) (v := ?_) (a' := ?_) #[true, true, true, true, false, false, false, false, false, false, false, false, false, false, false, false, false, false, false, false, false] rfl rfl (by kernel_rfl) (fun _ _ _ h => h) (Or.inl ⟨by rfl, ?_⟩) ?_ ?_
            rotate_left
            · intro w'
              go_simp
              with_reducible rfl
            rotate_left
            · simp only [Act.put, List.setIfInBounds_toArray, List.set_cons_zero, List.set_cons_succ, i64_w, i32_w]
              rfl
            refine pure_ (i := 4) (N := some 68) (v := ?_) (a' := ?_) #[true, true, true, true, true, false, false, false, false, false, false, false, false, false, false, false, false, false, false, false, false] rfl rfl (by kernel_rfl) (fun _ _ _ h => h) (Or.inl ⟨by rfl, ?_⟩) ?_ ?_
            rotate_left
            · intro w'
              go_simp
              with_reducible rfl
            rotate_left
            · simp only [Act.put, List.setIfInBounds_toArray, List.set_cons_zero, List.set_cons_succ, i64_w, i32_w]
              rfl
            refine pure_ (i := 5) (N := some 69) (v := ?_) (a' := ?_) #[true, true, true, true, true, true, false, false, false, false, false, false, false, false, false, false, false, false, false, false, false] rfl rfl (by kernel_rfl) (fun _ _ _ h => h) (Or.inl ⟨by rfl, ?_⟩) ?_ ?_
            rotate_left
            · intro w'
              go_simp
              with_reducible rfl
            rotate_left
            · simp only [Act.put, List.setIfInBounds_toArray, List.set_cons_zero, List.set_cons_succ, i64_w, i32_w]
              rfl
            refine pure_ (i := 7) (N := some 71) (v := ?_) (a' := ?_) #[true, true, true, true, true, true, false, true, false, false, false, false, false, false, false, false, false, false, false, false, false] rfl rfl (by kernel_rfl) (fun _ _ _ h => h) (Or.inl ⟨by rfl, ?_⟩) ?_ ?_
            rotate_left
            · intro w'
              go_simp
              with_reducible rfl
            rotate_left
            · simp only [Act.put, List.setIfInBounds_toArray, List.set_cons_zero, List.set_cons_succ, i64_w, i32_w]
              rfl
            refine pure_ (i := 9) (N := some 73) (v := ?_) (a' := ?_) #[true, true, true, true, true, true, false, true, false, true, false, false, false, false, false, false, false, false, false, false, false] rfl rfl (by kernel_rfl) (fun _ _ _ h => h) (Or.inl ⟨by rfl, ?_⟩) ?_ ?_
            rotate_left
            · intro w'
              go_simp
              with_reducible rfl
            rotate_left
            · simp only [Act.put, List.setIfInBounds_toArray, List.set_cons_zero, List.set_cons_succ, i64_w, i32_w]
              rfl
            refine pure_ (i := 10) (N := some 74) (v := ?_) (a' := ?_) #[true, true, true, true, true, true, false, true, false, true, true, false, false, false, false, false, false, false, false, false, false] rfl rfl (by kernel_rfl) (fun _ _ _ h => h) (Or.inl ⟨by rfl, ?_⟩) ?_ ?_
            rotate_left
            · intro w'
              go_simp
              with_reducible rfl
            rotate_left
            · simp only [Act.put, List.setIfInBounds_toArray, List.set_cons_zero, List.set_cons_succ, i64_w, i32_w]
              rfl
            refine pure_ (i := 11) (N := some 75) (v := ?_) (a' := ?_) #[true, true, true, true, true, true, false, true, false, true, true, true, false, false, false, false, false, false, false, false, false] rfl rfl (by kernel_rfl) (fun _ _ _ h => h) (Or.inl ⟨by rfl, ?_⟩) ?_ ?_
            rotate_left
            · intro w'
              go_simp
              with_reducible rfl
            rotate_left
            · simp only [Act.put, List.setIfInBounds_toArray, List.set_cons_zero, List.set_cons_succ, i64_w, i32_w]
              rfl
            refine pure_ (i := 12) (N := some 76) (v := ?_) (a' := ?_) #[true, true, true, true, true, true, false, true, false, true, true, true, true, false, false, false, false, false, false, false, false] rfl rfl (by kernel_rfl) (fun _ _ _ h => h) (Or.inl ⟨by rfl, ?_⟩) ?_ ?_
            rotate_left
            · intro w'
              go_simp
              with_reducible rfl
            rotate_left
            · simp only [Act.put, List.setIfInBounds_toArray, List.set_cons_zero, List.set_cons_succ, i64_w, i32_w]
              rfl
            refine pure_ (i := 13) (N := some 77) (v := ?_) (a' := ?_) #[true, true, true, true, true, true, false, true, false, true, true, true, true, true, false, false, false, false, false, false, false] rfl rfl (by kernel_rfl) (fun _ _ _ h => h) (Or.inl ⟨by rfl, ?_⟩) ?_ ?_
            rotate_left
            · intro w'
              go_simp
              with_reducible rfl
            rotate_left
            · simp only [Act.put, List.setIfInBounds_toArray, List.set_cons_zero, List.set_cons_succ, i64_w, i32_w]
              rfl
            refine pure_ (i := 15) (N := some 79) (v := ?_) (a' := ?_) #[true, true, true, true, true, true, false, true, false, true, true, true, true, true, false, true, false, false, false, false, false] rfl rfl (by kernel_rfl) (fun _ _ _ h => h) (Or.inl ⟨by rfl, ?_⟩) ?_ ?_
            rotate_left
            · intro w'
              go_simp
              with_reducible rfl
            rotate_left
            · simp only [Act.put, List.setIfInBounds_toArray, List.set_cons_zero, List.set_cons_succ, i64_w, i32_w]
              rfl
            refine take_ (i := 6) (N := some 70) (v := ?_) (a' := ?_) #[true, true, true, true, true, true, true, true, false, true, true, true, true, true, false, true, false, false, false, false, false] rfl rfl (by kernel_rfl) (fun _ _ _ h => h) (Or.inl ⟨by rfl, ?_⟩) hHeld ?_ ?_
            rotate_left
            · rintro w' ⟨s0, s1⟩
              go_simp
              with_reducible rfl
            rotate_left
            · simp only [Act.put, List.setIfInBounds_toArray, List.set_cons_zero, List.set_cons_succ, i64_w, i32_w]
              rfl
            refine pure_ (i := 8) (N := some 72) (v := ?_) (a' := ?_) #[true, true, true, true, true, true, true, true, true, true, true, true, true, true, false, true, false, false, false, false, false] rfl rfl (by kernel_rfl) (fun _ _ _ h => h) (Or.inl ⟨by rfl, ?_⟩) ?_ ?_
            rotate_left
            · intro w'
              go_simp
              with_reducible rfl
            rotate_left
            · simp only [Act.put, List.setIfInBounds_toArray, List.set_cons_zero, List.set_cons_succ, i64_w, i32_w]
              rfl
            refine take_ (i := 14) (N := some 78) (v := ?_) (a' := ?_) #[true, true, true, true, true, true, true, true, true, true, true, true, true, true, true, true, false, false, false, false, false] rfl rfl (by kernel_rfl) (fun _ _ _ h => h) (Or.inl ⟨by rfl, ?_⟩) hHeld ?_ ?_
            rotate_left
            · rintro w' ⟨s0, s1⟩
              go_simp
              with_reducible rfl
            rotate_left
            · simp only [Act.put, List.setIfInBounds_toArray, List.set_cons_zero, List.set_cons_succ, i64_w, i32_w]
              rfl
            refine pure_ (i := 16) (N := some 80) (v := ?_) (a' := ?_) #[true, true, true, true, true, true, true, true, true, true, true, true, true, true, true, true, true, false, false, false, false] rfl rfl (by kernel_rfl) (fun _ _ _ h => h) (Or.inl ⟨by rfl, ?_⟩) ?_ ?_
            rotate_left
            · intro w'
              go_simp
              with_reducible rfl
            rotate_left
            · simp only [Act.put, List.setIfInBounds_toArray, List.set_cons_zero, List.set_cons_succ, i64_w, i32_w]
              rfl
            refine pure_ (i := 17) (N := some 81) (v := ?_) (a' := ?_) #[true, true, true, true, true, true, true, true, true, true, true, true, true, true, true, true, true, true, false, false, false] rfl rfl (by kernel_rfl) (fun _ _ _ h => h) (Or.inl ⟨by rfl, ?_⟩) ?_ ?_
            rotate_left
            · intro w'
              go_simp
              with_reducible rfl
            rotate_left
            · simp only [Act.put, List.setIfInBounds_toArray, List.set_cons_zero, List.set_cons_succ, i64_w, i32_w]
              rfl
            refine last_ (i := 18) (N := some 82) #[true, true, true, true, true, true, true, true, true, true, true, true, true, true, true, true, true, true, true, false, false] rfl rfl (by kernel_rfl) (by decide) (fun K hK => ?_)
            refine value_ (w1 := ?_) (v := ?_) (by rfl) rfl ?_ ?_
            rotate_left 2
            · go_simp
              constructor
              · rfl
              · rfl
            refine hK.out _ _ ?_
            clear hK K
            refine norm_ (a' := ?_) ?_ ?_
            rotate_left
            · show Act.put _ (some 82) _ = _
              simp only [Act.put, List.setIfInBounds_toArray, List.set_cons_zero, List.set_cons_succ, i64_w, i32_w]
              rfl
            refine last_ (i := 19) (N := some 83) #[true, true, true, true, true, true, true, true, true, true, true, true, true, true, true, true, true, true, true, true, false] rfl rfl (by kernel_rfl) (by decide) (fun K hK => ?_)
            refine Kd.R_append_step k39 (w0 := w7.drew) (W := w7.drew) N1 (by rfl) (.tmp 64) (.tmp 82) 22 39 (.agg #[.int .i64 0, .int .u64 0]) 16 (by rfl) Tryd.underlying22 info_smp rfl (by decide) (by decide) _ (smpB L) (⟨t, (v : Nat)⟩ : S39) [.int .i64 t, .int .u64 (v : Nat)] (fun k => N1 ≤ k) (fun _ => False) (by rw [HM.out]; rfl) (by rfl) (k39_mkM _ _ _ _) (fun _ h => h.elim) (fun k hk => Nat.le_trans hlN (Nat.le_trans hs7 hk)) (Kd.R_drew HR7.out) (Below.refl _ _) (Nat.le_trans hlN hs7) (by rw [← HM.out, HML.out, ← HI.out]; omega) ?_
            intro v9 w9 hR9 _ hg9 _
            have HR9 := Lib.hid hR9
            have HG9 := Lib.hid hg9
            clear hR9 hg9
            refine hK.out _ _ ?_
            clear hK K
            refine norm_ (a' := ?_) ?_ ?_
            rotate_left
            · show Act.put _ (some 83) _ = _
              simp only [Act.put, List.setIfInBounds_toArray, List.set_cons_zero, List.set_cons_succ, i64_w, i32_w]
              rfl
            refine pure_ (i := 20) (N := some 6) (v := ?_) (a' := ?_) #[true, true, true, true, true, true, true, true, true, true, true, true, true, true, true, true, true, true, true, true, true] rfl rfl (by kernel_rfl) (fun _ _ _ h => h) (Or.inl ⟨by rfl, ?_⟩) ?_ ?_
            rotate_left
            · intro w'
              go_simp
              with_reducible rfl
            rotate_left
            · simp only [Act.put, List.setIfInBounds_toArray, List.set_cons_zero, List.set_cons_succ, i64_w, i32_w]
              rfl
            refine done_ (by kernel_rfl) ?_
            clear t1 t2
            clear p0 p1 hij hijw hij2 hjm
            go_wp2
            have H7d := Lib.hid (H7.out.drewN 1)
            have HQ7d : Hid (w7.drew.heap[bq]? = some (.cells (winC w2) 76 (0, 0))) := HQ7
            have HB7d := Lib.hid (HB7.out.trans (pw_below_drewN (Below.refl _ _) 1))
            have HR7d := Lib.hid (Kd.R_drew HR7.out)
            go_roundg (gk - 1)
            case measure => omega
            case rel =>
              have hR9 := HR9.out
              rw [show smpB L ++ [(⟨t, (v : Nat)⟩ : S39)] = smpB (L ++ [(t, v)]) from (smpB_snoc L (t, v)).symm] at hR9
              have hm9 : Mod (fun k => N1 ≤ k) w7.drew w9 := (Mod.refl _ w7.drew).grown HG9.out (fun k hk => .inl (HR7d.out.1 k hk))
              obtain ⟨f1, f2⟩ := HNF.out t v ⟨sn + 1, t, v, stp, w2⟩ σe HX.out
              have hll : (L ++ [(t, v)]).length = i + 1 := by rw [List.length_append, List.length_singleton, HI.out]
              refine ⟨L ++ [(t, v)], ⟨sn + 1, t, v, stp, w2⟩, σe, by rw [hll]; go_num, (by rw [HS8.out]), (fun _ => by rw [hll]; omega), ⟨hR9, H7d.out.kept hm9 (by omega) (fun k ho _ => by have := ho.2.2; omega), (hm9.blk HQ7d.out (by omega)), HB7d.out.trans (hm9.below HB7d.out.size (fun k hk => Nat.le_trans HS.out.wN hk)), HS.out.okb, Nat.le_trans hlN (Nat.le_trans hs7 hm9.size), HS.out.wN, HS.out.qN, HS.out.bN, (by rw [hll]; omega), (fun _ => getD_snoc L (t, v)), f1, f2⟩⟩
      · have hLn : L.length = n := by rw [← HI.out]; have := HI.out; omega
        have hUL : U = .ok (L, r) := by
          rw [show n - L.length = 0 by omega] at y6
          rw [y6]
          show Except.ok (L ++ [], r) = _
          rw [List.append_nil]
        obtain ⟨u1, u2, u3⟩ := HUO.out L r hUL
        have hL50 : L.length ≤ 50000 := by have := HBL.out; omega
        have hgl : getL xs = if packL L = xs then .ok L else .error 8 := by rw [HGL.out, hUL]
        have hf1 : ∀ x ∈ smpB L, 0 ≤ x.f1 := all_f1 (smpB_ok L u2)
        have hrow := smpRow_of (Kd.R_reads' HS.out.R).2.2 hf1
        rw [smps_smpB] at hrow
        have HPK := Lib.hid (rput08 wr Av cv L hrow u2 hL50)
        have hplen : (packL L).length ≤ 1000000000 := by
          have h1 := all_len L st0 st0_ok u2
          unfold packL packB
          rw [packI_length, List.length_append, nb_length]
          omega
        have HPL := Lib.hid hplen
        have HU2 := Lib.hid u2
        have HGLL := Lib.hid hgl
        clear hUL u1 u2 u3 hgl hf1 hrow hplen y1 y2 y3 y4 y5 y6 hLn hL50 hk
        have PKC : Hid (Calls Tryd.prog 13 #[.slice Av m cv] wr _) := Lib.hid (by rw [HML.out]; exact HPK.out)
        by_cases heq : packL L = xs
        · have HEQ := Lib.hid heq
          clear heq
          go_wp2_with fail
          go_loud (refine PKC.out.mono ?_)
          rintro e w5 ⟨v5, rfl, hR5, hB5⟩
          obtain ⟨A5, c5, hv5⟩ := Kd.R_slice hR5
          obtain ⟨n5, hn5⟩ : ∃ n5, n5 = (packL L).length := ⟨_, rfl⟩
          have HQ5 := Lib.hid (requal_calls w5 A5 A c5 c (packL L) xs (Kd.R_reads' (hv5 ▸ hR5)).2.2 (HC.out w5 (HS.out.B.trans (below_lower hB5 HS.out.B.size))) (by have := HPL.out; omega) (by omega))
          rw [← hn5] at hv5 HQ5
          subst hv5
          have HB5 := Lib.hid hB5
          clear hR5 hB5 hn5
          go_wp2_with fail
          go_loud (refine HQ5.out.mono ?_)
          rintro e w' ⟨rfl, n6, rfl⟩
          rw [decide_eq_true HEQ.out]
          go_wp2_with fail
          go_ret2
          have hge : getS xs = (smpB L, 0) := by unfold getS; rw [HGLL.out, if_pos HEQ.out]
          rw [hge]
          refine ⟨_, rfl, ?_, (HS.out.B.trans (below_lower HB5.out HS.out.B.size)).trans (pw_below_drewN (Below.refl _ _) _)⟩
          rw [HM.out]
          exact Kd.R_drewN (Kd.R_below (Kd.R_lower (Kd.R_mono HS.out.R (fun _ _ => trivial)) HS.out.wN) HB5.out) _
        · have HEQ := Lib.hid heq
          clear heq
          go_wp2_with fail
          go_loud (refine PKC.out.mono ?_)
          rintro e w5 ⟨v5, rfl, hR5, hB5⟩
          obtain ⟨A5, c5, hv5⟩ := Kd.R_slice hR5
          obtain ⟨n5, hn5⟩ : ∃ n5, n5 = (packL L).length := ⟨_, rfl⟩
          have HQ5 := Lib.hid (requal_calls w5 A5 A c5 c (packL L) xs (Kd.R_reads' (hv5 ▸ hR5)).2.2 (HC.out w5 (HS.out.B.trans (below_lower hB5 HS.out.B.size))) (by have := HPL.out; omega) (by omega))
          rw [← hn5] at hv5 HQ5
          subst hv5
          have HB5 := Lib.hid hB5
          clear hR5 hB5 hn5
          go_wp2_with fail
          go_loud (refine HQ5.out.mono ?_)
          rintro e w' ⟨rfl, n6, rfl⟩
          rw [decide_eq_false HEQ.out]
          go_wp2_with fail
          go_ret2
          have hge : getS xs = ([], 8) := by unfold getS; rw [HGLL.out, if_neg HEQ.out]
          rw [hge]
          exact ⟨_, rfl, Kd.R_nil _ _ _ _ _, (HS.out.B.trans (below_lower HB5.out HS.out.B.size)).trans (pw_below_drewN (Below.refl _ _) _)⟩
end Go.Proofs.YtmllgglcdlcdhaaDoor.PXL
