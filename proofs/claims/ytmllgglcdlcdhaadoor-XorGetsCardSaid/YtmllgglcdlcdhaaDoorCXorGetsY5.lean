import Derived.Test.YtmllgglcdlcdhaaDoorCXorGetsS6
import Derived.Test.YtmllgglcdlcdhaaDoorCXorGetsB9
namespace Go.Proofs.YtmllgglcdlcdhaaDoor.Bq
end Go.Proofs.YtmllgglcdlcdhaaDoor.Bq
section
namespace Go.Proofs.YtmllgglcdlcdhaaDoor
open Go Go.RowKit Go.Proofs.YtmllgglcdlcdhaaDoorW.PrintWords Go.Proofs.YtmllgglcdlcdhaaDoorW.PrintMore Go.Proofs.YtmllgglcdlcdhaaDoorW.PrintLast Bq Xs
set_option linter.unusedVariables false
set_option maxRecDepth 100000
set_option linter.unusedSimpArgs false
attribute [local go_sem ↓] Go.wp_at_zero Go.wp_at_succ
abbrev pkCells (g : Nat) (s : St) : Array Value := #[.pointer (some ⟨g, 0, none⟩), .int .i64 (s.n : Nat), .int .i64 s.t, .int .u64 (s.v : Nat), .int .u64 (s.step : Nat), .int .i64 (s.w.lead : Nat), .int .i64 (s.w.trail : Nat), .bool s.w.set]
structure Pk (w0 w : World) (ok : Nat → Prop) (p g : Nat) (bs : List Bool) (s : St) : Prop where
  blk : w.heap[p]? = some (.cells (pkCells g s) 88 (0, 0))
  wr : Wr w ok g bs
  okp : ¬ ok p
  fr : ∀ k, w.heap.size ≤ k → ok k
  lo : ∀ k, ok k → w0.heap.size ≤ k
  lp : w0.heap.size ≤ p
  bel : Below w0.heap.size w0 w
theorem Pk.drewN {w0 w : World} {ok : Nat → Prop} {p g : Nat} {bs : List Bool} {s : St} (h : Pk w0 w ok p g bs s) (n : Nat) : Pk w0 (w.drewN n) ok p g bs s :=
  ⟨h.blk, h.wr.drewN n, h.okp, h.fr, h.lo, h.lp, pw_below_drewN h.bel n⟩
theorem Pk.ptr {w0 w : World} {ok : Nat → Prop} {p g : Nat} {bs : List Bool} {s : St} (h : Pk w0 w ok p g bs s) : w.cell? ⟨p, 0, none⟩ = some (.pointer (some ⟨g, 0, none⟩)) := (blk_cell h.blk 0).trans rfl
theorem wr_put (w : World) (ok : Nat → Prop) (g : Nat) (bs : List Bool) (n width : Nat) (h : Wr w ok g bs) (hn : n < 18446744073709551616) (hw : width ≤ 64) (hx : width = 64 ∨ n < 2 ^ width) (hl : bs.length + width ≤ 8388608) :
    Calls Tryd.prog 45 #[.pointer (some ⟨g, 0, none⟩), .int .u64 (n : Nat), .int .i64 (width : Nat)] w fun e w' => e = .returned (.int .i64 0) ∧ Wr w' (fun k => ok k ∨ w.heap.size ≤ k) g (bs ++ nb n width) ∧ Mod ok w w' := by
  have hb : badW (width : Nat) n = false := by
    unfold badW
    rw [decide_eq_false (by omega), decide_eq_false (show ¬ (64 : Int) < (width : Nat) by omega)]
    rcases hx with hx | hx
    · rw [decide_eq_false (show ¬ ((width : Nat) : Int) < 64 by omega)]; rfl
    · rw [Int.toNat_natCast, Nat.div_eq_of_lt hx]; simp
  have hE : putE bs.length (width : Nat) n = 0 := by
    unfold putE
    rw [hb, if_neg (by decide), if_neg (by omega)]
  refine (put_calls w ok g bs n (width : Nat) h (by omega) hn (by omega) (by omega)).mono ?_
  rintro e w' ⟨rfl, h1, h2⟩
  unfold putBits at h1
  rw [if_pos hE, Int.toNat_natCast] at h1
  exact ⟨by rw [hE], h1, h2⟩
theorem Pk.put {w0 w : World} {ok : Nat → Prop} {p g : Nat} {bs : List Bool} {s : St} (h : Pk w0 w ok p g bs s) (n width : Nat) (hn : n < 18446744073709551616) (hw : width ≤ 64) (hx : width = 64 ∨ n < 2 ^ width) (hl : bs.length + width ≤ 8388608) :
    Calls Tryd.prog 45 #[.pointer (some ⟨g, 0, none⟩), .int .u64 (n : Nat), .int .i64 (width : Nat)] w fun e w' => e = .returned (.int .i64 0) ∧ Pk w0 w' ok p g (bs ++ nb n width) s ∧ Mod ok w w' := by
  refine (wr_put w ok g bs n width h.wr hn hw hx hl).mono ?_
  rintro e w' ⟨rfl, h1, h2⟩
  exact ⟨rfl, ⟨h2.blk h.blk h.okp, h1.mono (fun k hk => hk.elim id (h.fr k)), h.okp, fun k hk => h.fr k (Nat.le_trans h2.size hk), h.lo, h.lp, h.bel.trans (h2.below h.bel.size h.lo)⟩, h2⟩
theorem wr_putI (w : World) (ok : Nat → Prop) (g : Nat) (bs : List Bool) (N V : Int) (n width : Nat) (eN : N = (n : Nat)) (eV : V = (width : Nat)) (h : Wr w ok g bs) (hn : n < 18446744073709551616) (hw : width ≤ 64) (hx : width = 64 ∨ n < 2 ^ width) (hl : bs.length + width ≤ 8388608) :
    Calls Tryd.prog 45 #[.pointer (some ⟨g, 0, none⟩), .int .u64 N, .int .i64 V] w fun e w' => e = .returned (.int .i64 0) ∧ Wr w' (fun k => ok k ∨ w.heap.size ≤ k) g (bs ++ nb n width) ∧ Mod ok w w' := by
  subst eN eV
  exact wr_put w ok g bs n width h hn hw hx hl
theorem Pk.putI {w0 w : World} {ok : Nat → Prop} {p g : Nat} {bs : List Bool} {s : St} (h : Pk w0 w ok p g bs s) (N V : Int) (n width : Nat) (eN : N = (n : Nat)) (eV : V = (width : Nat)) (hn : n < 18446744073709551616) (hw : width ≤ 64) (hx : width = 64 ∨ n < 2 ^ width) (hl : bs.length + width ≤ 8388608) :
    Calls Tryd.prog 45 #[.pointer (some ⟨g, 0, none⟩), .int .u64 N, .int .i64 V] w fun e w' => e = .returned (.int .i64 0) ∧ Pk w0 w' ok p g (bs ++ nb n width) s ∧ Mod ok w w' := by
  subst eN eV
  exact h.put n width hn hw hx hl
theorem Pk.window {w0 w : World} {ok : Nat → Prop} {p g : Nat} {bs : List Bool} {s : St} (h : Pk w0 w ok p g bs s) (L T : Nat) :
    Pk w0 (((w.setCell ⟨p, 5, none⟩ (.int .i64 (L : Nat))).setCell ⟨p, 6, none⟩ (.int .i64 (T : Nat))).setCell ⟨p, 7, none⟩ (.bool true)) ok p g bs ⟨s.n, s.t, s.v, s.step, ⟨true, L, T⟩⟩ ∧ Mod (fun k => k = p) w (((w.setCell ⟨p, 5, none⟩ (.int .i64 (L : Nat))).setCell ⟨p, 6, none⟩ (.int .i64 (T : Nat))).setCell ⟨p, 7, none⟩ (.bool true)) := by
  have hm : Mod (fun k => k = p) w (((w.setCell ⟨p, 5, none⟩ (.int .i64 (L : Nat))).setCell ⟨p, 6, none⟩ (.int .i64 (T : Nat))).setCell ⟨p, 7, none⟩ (.bool true)) :=
    (((Mod.refl (fun k => k = p) w).setCell (p := ⟨p, 5, none⟩) (.inl rfl) _).setCell (p := ⟨p, 6, none⟩) (.inl rfl) _).setCell (p := ⟨p, 7, none⟩) (.inl rfl) _
  exact ⟨⟨blk_put (blk_put (blk_put h.blk 5 _ rfl) 6 _ rfl) 7 _ rfl, h.wr.kept hm (fun k ho _ e => h.okp (e ▸ ho)), h.okp, fun k hk => h.fr k (Nat.le_trans hm.size hk), h.lo, h.lp, h.bel.trans (hm.below h.bel.size (fun k e => by rw [e]; exact h.lp))⟩, hm⟩
theorem Pk.last {w0 w : World} {ok : Nat → Prop} {p g : Nat} {bs : List Bool} {s : St} (h : Pk w0 w ok p g bs s) (n v step : Nat) (t : Int) :
    Pk w0 ((((w.setCell ⟨p, 4, none⟩ (.int .u64 (step : Nat))).setCell ⟨p, 2, none⟩ (.int .i64 t)).setCell ⟨p, 3, none⟩ (.int .u64 (v : Nat))).setCell ⟨p, 1, none⟩ (.int .i64 (n : Nat))) ok p g bs ⟨n, t, v, step, s.w⟩ := by
  have hm : Mod (fun k => k = p) w ((((w.setCell ⟨p, 4, none⟩ (.int .u64 (step : Nat))).setCell ⟨p, 2, none⟩ (.int .i64 t)).setCell ⟨p, 3, none⟩ (.int .u64 (v : Nat))).setCell ⟨p, 1, none⟩ (.int .i64 (n : Nat))) :=
    ((((Mod.refl (fun k => k = p) w).setCell (p := ⟨p, 4, none⟩) (.inl rfl) _).setCell (p := ⟨p, 2, none⟩) (.inl rfl) _).setCell (p := ⟨p, 3, none⟩) (.inl rfl) _).setCell (p := ⟨p, 1, none⟩) (.inl rfl) _
  exact ⟨blk_put (blk_put (blk_put (blk_put h.blk 4 _ rfl) 2 _ rfl) 3 _ rfl) 1 _ rfl, h.wr.kept hm (fun k ho _ e => h.okp (e ▸ ho)), h.okp, fun k hk => h.fr k (Nat.le_trans hm.size hk), h.lo, h.lp, h.bel.trans (hm.below h.bel.size (fun k e => by rw [e]; exact h.lp))⟩
set_option maxHeartbeats 2000000 in
theorem change_calls (w0 w : World) (ok : Nat → Prop) (p g : Nat) (bs : List Bool) (s : St) (d : Int) (hd : -9223372036854775808 ≤ d ∧ d ≤ 9223372036854775807) (h : Pk w0 w ok p g bs s) (hl : bs.length + 68 ≤ 8388608) :
    Calls Tryd.prog 66 #[.pointer (some ⟨p, 0, none⟩), .int .i64 d] w fun e w' => e = .returned (.tuple #[]) ∧ Pk w0 w' ok p g (bs ++ changeB d) s ∧ Mod ok w w' := by
  have c0 := h.ptr
  have H := Lib.hid h
  clear h
  obtain ⟨u, hu⟩ : ∃ u : Nat, u = u64 d := ⟨_, rfl⟩
  have hu2 : u < 18446744073709551616 := by rw [hu]; exact u64_lt d
  have hw : IntKind.u64.wrap d = (u : Int) := by rw [hu]; exact wrapu d
  by_cases h0 : d = 0
  · have HE : Hid (changeB d = nb 0 1) := by unfold Hid changeB; rw [if_pos h0]
    subst h0
    clear hw hu
    go_enter Tryd.func66, Tryd.ntmps66
    go_wp2_with fail
    refine (H.out.put 0 1 (by decide) (by decide) (by decide) (by omega)).mono ?_
    rintro e w1 ⟨rfl, h1, m1⟩
    have H1 := Lib.hid h1
    have M1 := Lib.hid m1
    clear h1 m1
    go_wp2_with fail
    go_end0
    exact ⟨rfl, by rw [HE.out]; exact H1.out, M1.out⟩
  · have hb0 : (d == 0) = false := beq_false_of_ne h0
    by_cases h1 : -8191 ≤ d ∧ d ≤ 8192
    · have HE : Hid (changeB d = nb 2 2 ++ nb u 14) := by unfold Hid changeB; rw [if_neg h0, if_pos h1, ← hu]
      obtain ⟨h1a, h1b⟩ := h1
      obtain ⟨q, hq⟩ : ∃ q : Nat, q = u % 16384 := ⟨_, rfl⟩
      have hq2 : q < 2 ^ 14 := by omega
      have ha : bits .and .u64 (u : Int) 16383 = (q : Int) := by rw [hq]; exact and_mask u 14 hu2 (by decide)
      have HQ : Hid (nb q 14 = nb u 14) := by unfold Hid; rw [hq]; exact nb_mod u 14
      clear hu hq
      go_enter Tryd.func66, Tryd.ntmps66
      go_wp2_with fail
      refine (H.out.put 2 2 (by decide) (by decide) (by decide) (by omega)).mono ?_
      rintro e w1 ⟨rfl, h1, m1⟩
      have H1 := Lib.hid h1
      have M1 := Lib.hid m1
      have c1 := h1.ptr
      clear h1 m1
      go_wp2_with fail
      refine (H1.out.put q 14 (by omega) (by decide) (.inr hq2) (by rw [List.length_append, nb_length]; omega)).mono ?_
      rintro e w2 ⟨rfl, h2, m2⟩
      have H2 := Lib.hid h2
      have M2 := Lib.hid m2
      clear h2 m2
      go_wp2_with fail
      go_end0
      refine ⟨rfl, ?_, M1.out.trans M2.out (fun _ _ h => h)⟩
      rw [HE.out, ← HQ.out, ← List.append_assoc]
      exact H2.out
    · have n0 := h1
      clear h1
      have t0 : (d ≥ -8191 ∧ ¬ d ≤ 8192) ∨ ¬ d ≥ -8191 := by omega
      by_cases h1 : -65535 ≤ d ∧ d ≤ 65536
      · have HE : Hid (changeB d = nb 6 3 ++ nb u 17) := by unfold Hid changeB; rw [if_neg h0, if_neg n0, if_pos h1, ← hu]
        obtain ⟨h1a, h1b⟩ := h1
        obtain ⟨q, hq⟩ : ∃ q : Nat, q = u % 131072 := ⟨_, rfl⟩
        have hq2 : q < 2 ^ 17 := by omega
        have ha : bits .and .u64 (u : Int) 131071 = (q : Int) := by rw [hq]; exact and_mask u 17 hu2 (by decide)
        have HQ : Hid (nb q 17 = nb u 17) := by unfold Hid; rw [hq]; exact nb_mod u 17
        clear hu hq
        rcases t0 with ⟨e1, e2⟩ | e1
        · go_enter Tryd.func66, Tryd.ntmps66
          go_wp2_with fail
          refine (H.out.put 6 3 (by decide) (by decide) (by decide) (by omega)).mono ?_
          rintro e w1 ⟨rfl, h1, m1⟩
          have H1 := Lib.hid h1
          have M1 := Lib.hid m1
          have c1 := h1.ptr
          clear h1 m1
          go_wp2_with fail
          refine (H1.out.put q 17 (by omega) (by decide) (.inr hq2) (by rw [List.length_append, nb_length]; omega)).mono ?_
          rintro e w2 ⟨rfl, h2, m2⟩
          have H2 := Lib.hid h2
          have M2 := Lib.hid m2
          clear h2 m2
          go_wp2_with fail
          go_end0
          refine ⟨rfl, ?_, M1.out.trans M2.out (fun _ _ h => h)⟩
          rw [HE.out, ← HQ.out, ← List.append_assoc]
          exact H2.out
        · go_enter Tryd.func66, Tryd.ntmps66
          go_wp2_with fail
          refine (H.out.put 6 3 (by decide) (by decide) (by decide) (by omega)).mono ?_
          rintro e w1 ⟨rfl, h1, m1⟩
          have H1 := Lib.hid h1
          have M1 := Lib.hid m1
          have c1 := h1.ptr
          clear h1 m1
          go_wp2_with fail
          refine (H1.out.put q 17 (by omega) (by decide) (.inr hq2) (by rw [List.length_append, nb_length]; omega)).mono ?_
          rintro e w2 ⟨rfl, h2, m2⟩
          have H2 := Lib.hid h2
          have M2 := Lib.hid m2
          clear h2 m2
          go_wp2_with fail
          go_end0
          refine ⟨rfl, ?_, M1.out.trans M2.out (fun _ _ h => h)⟩
          rw [HE.out, ← HQ.out, ← List.append_assoc]
          exact H2.out
      · have n1 := h1
        clear h1
        have t1 : (d ≥ -65535 ∧ ¬ d ≤ 65536) ∨ ¬ d ≥ -65535 := by omega
        by_cases h1 : -524287 ≤ d ∧ d ≤ 524288
        · have HE : Hid (changeB d = nb 14 4 ++ nb u 20) := by unfold Hid changeB; rw [if_neg h0, if_neg n0, if_neg n1, if_pos h1, ← hu]
          obtain ⟨h1a, h1b⟩ := h1
          obtain ⟨q, hq⟩ : ∃ q : Nat, q = u % 1048576 := ⟨_, rfl⟩
          have hq2 : q < 2 ^ 20 := by omega
          have ha : bits .and .u64 (u : Int) 1048575 = (q : Int) := by rw [hq]; exact and_mask u 20 hu2 (by decide)
          have HQ : Hid (nb q 20 = nb u 20) := by unfold Hid; rw [hq]; exact nb_mod u 20
          clear hu hq
          rcases t1 with ⟨e1, e2⟩ | e1
          · have f0a : d ≥ -8191 := by omega
            have f0b : ¬ d ≤ 8192 := by omega
            clear t0
            go_enter Tryd.func66, Tryd.ntmps66
            go_wp2_with fail
            refine (H.out.put 14 4 (by decide) (by decide) (by decide) (by omega)).mono ?_
            rintro e w1 ⟨rfl, h1, m1⟩
            have H1 := Lib.hid h1
            have M1 := Lib.hid m1
            have c1 := h1.ptr
            clear h1 m1
            go_wp2_with fail
            refine (H1.out.put q 20 (by omega) (by decide) (.inr hq2) (by rw [List.length_append, nb_length]; omega)).mono ?_
            rintro e w2 ⟨rfl, h2, m2⟩
            have H2 := Lib.hid h2
            have M2 := Lib.hid m2
            clear h2 m2
            go_wp2_with fail
            go_end0
            refine ⟨rfl, ?_, M1.out.trans M2.out (fun _ _ h => h)⟩
            rw [HE.out, ← HQ.out, ← List.append_assoc]
            exact H2.out
          · have f0a : ¬ d ≥ -8191 := by omega
            clear t0
            go_enter Tryd.func66, Tryd.ntmps66
            go_wp2_with fail
            refine (H.out.put 14 4 (by decide) (by decide) (by decide) (by omega)).mono ?_
            rintro e w1 ⟨rfl, h1, m1⟩
            have H1 := Lib.hid h1
            have M1 := Lib.hid m1
            have c1 := h1.ptr
            clear h1 m1
            go_wp2_with fail
            refine (H1.out.put q 20 (by omega) (by decide) (.inr hq2) (by rw [List.length_append, nb_length]; omega)).mono ?_
            rintro e w2 ⟨rfl, h2, m2⟩
            have H2 := Lib.hid h2
            have M2 := Lib.hid m2
            clear h2 m2
            go_wp2_with fail
            go_end0
            refine ⟨rfl, ?_, M1.out.trans M2.out (fun _ _ h => h)⟩
            rw [HE.out, ← HQ.out, ← List.append_assoc]
            exact H2.out
        · have n2 := h1
          clear h1
          have t2 : (d ≥ -524287 ∧ ¬ d ≤ 524288) ∨ ¬ d ≥ -524287 := by omega
          have HE : Hid (changeB d = nb 15 4 ++ nb u 64) := by unfold Hid changeB; rw [if_neg h0, if_neg n0, if_neg n1, if_neg n2, ← hu]
          clear hu n0 n1 n2
          rcases t2 with ⟨e1, e2⟩ | e1
          · have d3 : d ≥ -65535 := by omega
            have d4 : ¬ d ≤ 65536 := by omega
            have d5 : d ≥ -8191 := by omega
            have d6 : ¬ d ≤ 8192 := by omega
            clear t0 t1
            go_enter Tryd.func66, Tryd.ntmps66
            go_wp2_with fail
            refine (H.out.put 15 4 (by decide) (by decide) (by decide) (by omega)).mono ?_
            rintro e w1 ⟨rfl, h1, m1⟩
            have H1 := Lib.hid h1
            have M1 := Lib.hid m1
            have c1 := h1.ptr
            clear h1 m1
            go_wp2_with fail
            refine (H1.out.put u 64 (by omega) (by decide) (.inl rfl) (by rw [List.length_append, nb_length]; omega)).mono ?_
            rintro e w2 ⟨rfl, h2, m2⟩
            have H2 := Lib.hid h2
            have M2 := Lib.hid m2
            clear h2 m2
            go_wp2_with fail
            go_end0
            refine ⟨rfl, ?_, M1.out.trans M2.out (fun _ _ h => h)⟩
            rw [HE.out, ← List.append_assoc]
            exact H2.out
          · have d3 : ¬ d ≥ -65535 := by omega
            have d5 : ¬ d ≥ -8191 := by omega
            clear t0 t1
            go_enter Tryd.func66, Tryd.ntmps66
            go_wp2_with fail
            refine (H.out.put 15 4 (by decide) (by decide) (by decide) (by omega)).mono ?_
            rintro e w1 ⟨rfl, h1, m1⟩
            have H1 := Lib.hid h1
            have M1 := Lib.hid m1
            have c1 := h1.ptr
            clear h1 m1
            go_wp2_with fail
            refine (H1.out.put u 64 (by omega) (by decide) (.inl rfl) (by rw [List.length_append, nb_length]; omega)).mono ?_
            rintro e w2 ⟨rfl, h2, m2⟩
            have H2 := Lib.hid h2
            have M2 := Lib.hid m2
            clear h2 m2
            go_wp2_with fail
            go_end0
            refine ⟨rfl, ?_, M1.out.trans M2.out (fun _ _ h => h)⟩
            rw [HE.out, ← List.append_assoc]
            exact H2.out
end Go.Proofs.YtmllgglcdlcdhaaDoor
end
section
namespace Go.Proofs.YtmllgglcdlcdhaaDoor
open Go Go.RowKit Go.Proofs.YtmllgglcdlcdhaaDoorW.PrintWords Go.Proofs.YtmllgglcdlcdhaaDoorW.PrintMore Go.Proofs.YtmllgglcdlcdhaaDoorW.PrintLast Bq Xs
set_option linter.unusedVariables false
set_option maxRecDepth 100000
set_option linter.unusedSimpArgs false
attribute [local go_sem ↓] Go.wp_at_zero Go.wp_at_succ
attribute [local go_sem] max2_int min2_int max_two min_two
theorem bytesB_take (xs : List Int) (i : Nat) (h : i < xs.length) : bytesB (xs.take (i + 1)) = bytesB (xs.take i) ++ nb (xs.getD i 0).toNat 8 := by
  rw [List.take_succ_eq_append_getElem h, List.getD_eq_getElem?_getD, List.getElem?_eq_getElem h]
  unfold bytesB
  rw [List.flatMap_append]
  simp
set_option maxHeartbeats 2000000 in
theorem raw_calls (w : World) (okb okr : Nat → Prop) (p g base : Nat) (bs : List Bool) (s : St) (v : Value) (xs : List Int)
    (hblk : w.heap[p]? = some (.cells (pkCells g s) 88 (0, 0))) (hW : Wr w okb g bs) (hp : ¬ okb p) (hR : (Kd.int .u8).R 5 w base okr v xs) (hd : ∀ k, okr k → ¬ okb k) (hb : Byts xs) (hl : bs.length + 8 * xs.length ≤ 8388608) :
    Calls Tryd.prog 62 #[.pointer (some ⟨p, 0, none⟩), v] w fun e w' => e = .returned (.tuple #[]) ∧ Wr w' (fun k => okb k ∨ w.heap.size ≤ k) g (bs ++ bytesB xs) ∧ Mod okb w w' := by
  obtain ⟨A, c, hv⟩ := Kd.R_slice hR
  subst hv
  have hpl := blk_lt hblk
  have HB := Lib.hid hblk
  have HW := Lib.hid hW
  have HR := Lib.hid (Kd.R_bound hR)
  have HD := Lib.hid hd
  have hxl : xs.length ≤ 1048576 := by omega
  have HY := Lib.hid hb
  clear hblk hW hR hd hb
  go_enter Tryd.func62, Tryd.ntmps62
  go_wp2
  go_loopg [7] xs.length (fun kq s7 wr => ∃ i : Nat, i + kq = xs.length ∧ s7 = .int .i64 i ∧ Hid (Wr wr (fun k => okb k ∨ w.heap.size ≤ k) g (bs ++ bytesB (xs.take i))) ∧ Hid (Mod okb w wr))
  case atStart => exact ⟨0, by omega, rfl, by rw [List.take_zero]; show Wr _ _ _ (bs ++ []); rw [List.append_nil]; exact HW.out.mono (fun _ h => .inl h), Mod.refl _ _⟩
  case round =>
    obtain ⟨i, hi, rfl, HWr, HM⟩ := hrel
    by_cases hlt : i < xs.length
    · have hRr := Kd.R_step HR.out (fun k ho hk => HM.out.block k hk (HD.out k ho.1))
      have hCr := (Kd.R_reads' hRr).2.2
      obtain ⟨ad, hA, hx⟩ := C_at_int hCr i hlt
      subst hA
      obtain ⟨x, hxe⟩ : ∃ x, x = xs.getD i 0 := ⟨_, rfl⟩
      rw [← hxe] at hx
      have hxb := HY.out.get i hlt
      rw [← hxe] at hxb
      obtain ⟨n, hn⟩ := Int.eq_ofNat_of_zero_le hxb.1
      subst hn
      have hn : n < 256 := by omega
      have HN : Hid (bytesB (xs.take (i + 1)) = bytesB (xs.take i) ++ nb n 8) := Lib.hid (by rw [bytesB_take xs i hlt, ← hxe, Int.toNat_natCast])
      have hlen : (bs ++ bytesB (xs.take i)).length + 8 ≤ 8388608 := by rw [List.length_append, bytesB_length, List.length_take]; omega
      have hq0 : wr.drew.cell? ⟨p, 0, none⟩ = some (.pointer (some ⟨g, 0, none⟩)) := (blk_cell (HM.out.blk HB.out hp) 0).trans rfl
      have hq1 : wr.drew.cell? (ad.add i) = some (.int .u8 n) := hx
      have HWd := Lib.hid (HWr.out.drewN 1)
      have HMd := Lib.hid (HM.out.drewN 1)
      have hdr : wr.drewN 1 = wr.drew := rfl
      rw [hdr] at HWd HMd
      have hn64 : IntKind.u64.wrap (n : Int) = (n : Int) := by rw [IntKind.wrap_u64]; omega
      clear hRr hCr hxe hxb hdr hx
      have HLE := Lib.hid hlen
      clear hlen
      go_upto_region 3 with fail
      refine start_ (n := 10) (S := fun w' => w'.cell? ⟨p, 0, none⟩ = some (.pointer (some ⟨g, 0, none⟩)) ∧ w'.cell? (ad.add i) = some (.int .u8 n)) (ds := [9]) #[false, false, false, false, false, false, false, false, false, false] (by kernel_rfl) rfl rfl ⟨hq0, hq1⟩ (fun hHeld => ?_)
      refine pure_ (i := 0) (N := some 10) (v := ?_) (a' := ?_) #[true, false, false, false, false, false, false, false, false, false] rfl rfl (by kernel_rfl) (fun _ _ _ h => h) (Or.inl ⟨by rfl, ?_⟩) ?_ ?_
      rotate_left
      · intro w'
        go_simp
        with_reducible rfl
      rotate_left
      · simp only [Act.put, List.setIfInBounds_toArray, List.set_cons_zero, List.set_cons_succ, i64_w, i32_w]
        rfl
      refine pure_ (i := 1) (N := some 11) (v := ?_) (a' := ?_) #[true, true, false, false, false, false, false, false, false, false] rfl rfl (by kernel_rfl) (fun _ _ _ h => h) (Or.inl ⟨by rfl, ?_⟩) ?_ ?_
      rotate_left
      · intro w'
        go_simp
        with_reducible rfl
      rotate_left
      · simp only [Act.put, List.setIfInBounds_toArray, List.set_cons_zero, List.set_cons_succ, i64_w, i32_w]
        rfl
      refine pure_ (i := 2) (N := some 12) (v := ?_) (a' := ?_) #[true, true, true, false, false, false, false, false, false, false] rfl rfl (by kernel_rfl) (fun _ _ _ h => h) (Or.inl ⟨by rfl, ?_⟩) ?_ ?_
      rotate_left
      · intro w'
        go_simp
        with_reducible rfl
      rotate_left
      · simp only [Act.put, List.setIfInBounds_toArray, List.set_cons_zero, List.set_cons_succ, i64_w, i32_w]
        rfl
      refine pure_ (i := 4) (N := some 14) (v := ?_) (a' := ?_) #[true, true, true, false, true, false, false, false, false, false] rfl rfl (by kernel_rfl) (fun _ _ _ h => h) (Or.inl ⟨by rfl, ?_⟩) ?_ ?_
      rotate_left
      · intro w'
        go_simp
        with_reducible rfl
      rotate_left
      · simp only [Act.put, List.setIfInBounds_toArray, List.set_cons_zero, List.set_cons_succ, i64_w, i32_w]
        rfl
      refine pure_ (i := 5) (N := some 15) (v := ?_) (a' := ?_) #[true, true, true, false, true, true, false, false, false, false] rfl rfl (by kernel_rfl) (fun _ _ _ h => h) (Or.inl ⟨by rfl, ?_⟩) ?_ ?_
      rotate_left
      · intro w'
        go_simp
        with_reducible rfl
      rotate_left
      · simp only [Act.put, List.setIfInBounds_toArray, List.set_cons_zero, List.set_cons_succ, i64_w, i32_w]
        rfl
      refine pure_ (i := 6) (N := some 16) (v := ?_) (a' := ?_) #[true, true, true, false, true, true, true, false, false, false] rfl rfl (by kernel_rfl) (fun _ _ _ h => h) (Or.inl ⟨by rfl, ?_⟩) ?_ ?_
      rotate_left
      · intro w'
        go_simp
        with_reducible rfl
      rotate_left
      · simp only [Act.put, List.setIfInBounds_toArray, List.set_cons_zero, List.set_cons_succ, i64_w, i32_w]
        rfl
      refine take_ (i := 3) (N := some 13) (v := ?_) (a' := ?_) #[true, true, true, true, true, true, true, false, false, false] rfl rfl (by kernel_rfl) (fun _ _ _ h => h) (Or.inl ⟨by rfl, ?_⟩) hHeld ?_ ?_
      rotate_left
      · rintro w' ⟨s0, s1⟩
        go_simp
        with_reducible rfl
      rotate_left
      · simp only [Act.put, List.setIfInBounds_toArray, List.set_cons_zero, List.set_cons_succ, i64_w, i32_w]
        rfl
      refine take_ (i := 7) (N := some 17) (v := ?_) (a' := ?_) #[true, true, true, true, true, true, true, true, false, false] rfl rfl (by kernel_rfl) (fun _ _ _ h => h) (Or.inl ⟨by rfl, ?_⟩) hHeld ?_ ?_
      rotate_left
      · rintro w' ⟨s0, s1⟩
        go_simp
        with_reducible rfl
      rotate_left
      · simp only [Act.put, List.setIfInBounds_toArray, List.set_cons_zero, List.set_cons_succ, i64_w, i32_w]
        rfl
      refine pure_ (i := 8) (N := some 18) (v := ?_) (a' := ?_) #[true, true, true, true, true, true, true, true, true, false] rfl rfl (by kernel_rfl) (fun _ _ _ h => h) (Or.inl ⟨by rfl, ?_⟩) ?_ ?_
      rotate_left
      · intro w'
        go_simp
        with_reducible rfl
      rotate_left
      · simp only [Act.put, List.setIfInBounds_toArray, List.set_cons_zero, List.set_cons_succ, i64_w, i32_w]
        rfl
      refine last_ (i := 9) (N := some 19) #[true, true, true, true, true, true, true, true, true, true] rfl rfl (by kernel_rfl) (by decide) (fun K hK => ?_)
      refine goes_ Tryd.func45 (by kernel_rfl) rfl #[.pointer (some ⟨g, 0, none⟩), .int .u64 n, .int .i64 8] (by rfl) rfl rfl (by simp only [List.map_toArray, List.map_cons, List.map_nil]; rfl) ?_
      with_reducible refine (wr_putI wr.drew _ g _ n 8 n 8 rfl rfl HWd.out (by omega) (by decide) (.inr (by omega)) HLE.out).mono ?_
      rintro e w2 ⟨rfl, hw2, hm2⟩
      refine ⟨_, rfl, ?_⟩
      have HW2 := Lib.hid hw2
      have HM2 := Lib.hid hm2
      clear hw2 hm2
      refine hK.out _ _ ?_
      clear hK K
      refine norm_ (a' := ?_) ?_ ?_
      rotate_left
      · show Act.put _ (some 19) _ = _
        simp only [Act.put, List.setIfInBounds_toArray, List.set_cons_zero, List.set_cons_succ, i64_w, i32_w]
        rfl
      refine done_ (by kernel_rfl) ?_
      clear hq0 hq1
      go_wp2
      go_roundg (gk - 1)
      case measure => omega
      case rel =>
        refine ⟨i + 1, by omega, by go_num, ?_, ?_⟩
        · show Wr _ _ _ _
          rw [HN.out, ← List.append_assoc]
          exact HW2.out.mono (fun k hk => hk.elim id (fun h => .inr (Nat.le_trans HMd.out.size h)))
        · exact HMd.out.trans HM2.out (fun k hk h => h.elim id (fun h => absurd h (Nat.not_le.2 hk)))
    · go_wp2
      go_end0
      have h2 := HWr.out
      rw [List.take_of_length_le (by omega)] at h2
      exact ⟨rfl, h2, HM.out⟩
end Go.Proofs.YtmllgglcdlcdhaaDoor
end
