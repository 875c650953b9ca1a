import Derived.Test.YtdckhaejhfkkbaaDoorCRecordBackRY
import Derived.Test.YtdckhaejhfkkbaaDoorCRecordBackPRTx23
import Derived.Test.YtdckhaejhfkkbaaDoorCRecordBackO2
import Derived.Lib.LaidU8
import Derived.LaidMore
import Derived.Test.YtdckhaejhfkkbaaDoorCRecordBackPRTx2
import Derived.Test.YtdckhaejhfkkbaaDoorRows
import Derived.Lib.LaidU8T
namespace Go.Proofs.YtdckhaejhfkkbaaDoor.Bq
end Go.Proofs.YtdckhaejhfkkbaaDoor.Bq
section
namespace Go.Proofs.YtdckhaejhfkkbaaDoor.Pu
open Go Go.RowKit Go.Proofs.YtdckhaejhfkkbaaDoor Go.Proofs.YtdckhaejhfkkbaaDoor.PRT Go.Proofs.YtdckhaejhfkkbaaDoorW.PrintWords Go.Proofs.YtdckhaejhfkkbaaDoorW.PrintLast Go.Proofs.YtdckhaejhfkkbaaDoorW.PrintMore Bq
set_option linter.unusedVariables false
set_option linter.unusedSimpArgs false
theorem ents_ok {l : List Ent} (h : Wps l) : entsB l = 0 := by
  unfold entsB
  rw [if_neg]
  rintro ⟨x, hx, h2⟩
  have h3 := h x hx
  have := h3.1.1
  have := h3.2.2.2.1
  omega
theorem zero_a : Wa 0 0 0 := ⟨⟨by decide, by decide⟩, ⟨by decide, by decide⟩, ⟨by decide, by decide⟩⟩
theorem putB_ok {l : List Lab} (h : rightB l = 0) : (putB l).1 = putL l := by unfold putB; rw [if_pos h]
def Wr (l : List Ent) : Prop := ∀ x ∈ l, (0 ≤ x.f0 ∧ x.f0 < 4294967296) ∧ (-9223372036854775808 ≤ x.f1.f0 ∧ x.f1.f0 ≤ 9223372036854775807) ∧ (0 ≤ x.f1.f1 ∧ x.f1.f1 < 18446744073709551616) ∧ (0 ≤ x.f1.f2 ∧ x.f1.f2 < 18446744073709551616)
theorem check_cases {a0 a1 : Int} {l2 : List Lab} {l : List Ent} (hw : Wr l) (h : checkB a0 a1 l2 l = 0) :
    (a0 = 1 ∧ ¬ a1 = 0 ∧ l = [] ∧ rightB l2 = 0) ∨ (a0 = 2 ∧ a1 = 0 ∧ l2 = [] ∧ 0 < l.length ∧ l.length ≤ 256 ∧ Wps l) := by
  unfold checkB at h
  split at h
  · rename_i h1
    split at h
    · omega
    · rename_i h2
      split at h
      · omega
      · rename_i h3
        exact .inl ⟨h1, h2, List.eq_nil_of_length_eq_zero (by omega), h⟩
  · split at h
    · rename_i h0 h1
      split at h
      · rename_i h2
        split at h
        · omega
        · rename_i h3
          split at h
          · omega
          · rename_i h4
            split at h
            · omega
            · rename_i h5
              refine .inr ⟨h1, h2, List.eq_nil_of_length_eq_zero (by omega), by omega, by omega, fun x hx => ?_⟩
              have hwx := hw x hx
              unfold entsB at h
              split at h
              · omega
              · rename_i h6
                have n0 : ¬ x.f0 = 0 := fun e => h6 ⟨x, hx, .inl e⟩
                have n1 : ¬ x.f1.f2 = 0 := fun e => h6 ⟨x, hx, .inr e⟩
                exact ⟨⟨by omega, hwx.1.2⟩, hwx.2.1, hwx.2.2.1, ⟨by omega, hwx.2.2.2.2⟩⟩
      · omega
    · omega
theorem put_series (n : Nat) (l2 : List Lab) (h0 : ¬ (n : Int) = 0) (hr : rightB l2 = 0) : putR 1 (n : Int) l2 [] = (1 :: (Bq.ints (uv n) ++ putL l2), 0) := by
  have hc : checkB 1 (n : Int) l2 [] = 0 := by
    unfold checkB
    rw [if_pos rfl, if_neg h0, if_neg (by simp), hr]
  unfold putR
  rw [if_pos hc, if_pos rfl, Int.toNat_natCast, putB_ok hr]
  rfl
theorem put_points (l : List Ent) (h0 : 0 < l.length) (h1 : l.length ≤ 256) (hw : Wps l) : putR 2 0 [] l = (2 :: (Bq.ints (uv l.length) ++ ptsL l 0 0 0), 0) := by
  have hc : checkB 2 0 [] l = 0 := by
    unfold checkB
    rw [if_neg (by decide), if_pos rfl, if_pos rfl, if_neg (by simp), if_neg (by omega), if_neg (by omega), ents_ok hw]
  unfold putR
  rw [if_pos hc, if_neg (by decide)]
  rfl
theorem takeG_cons (x : Int) (b : List Int) : takeG (x :: b) = if x = 1 then seriesG b else if x = 2 then pointsG b else recBad 130 := rfl
theorem take_series (n : Nat) (hn : n < 4294967296) (l2 : List Lab) (h0 : ¬ (n : Int) = 0) (hr : rightB l2 = 0) (rest : List Int) : takeG (1 :: (Bq.ints (uv n) ++ putL l2 ++ rest)) = if 0 < rest.length then recBad 8 else (1, (n : Int), l2, [], 0) := by
  rw [takeG_cons]
  unfold seriesG
  rw [if_pos rfl, List.append_assoc, uget_uv n (by omega) (putL l2 ++ rest)]
  have hd : (Bq.ints (uv n) ++ (putL l2 ++ rest)).drop (uv n).length = putL l2 ++ rest := by rw [← Bq.ints_length (uv n), List.drop_left]
  simp only [if_pos trivial, Int.toNat_natCast, hd, take_put l2 rest hr]
  rw [if_neg (by omega)]
  have hl := Bq.ints_length (uv n)
  by_cases h : 0 < rest.length
  · rw [if_pos h, if_pos (by rw [List.length_append, List.length_append, hl]; omega)]
  · rw [if_neg h, if_neg (by rw [List.length_append, List.length_append, hl]; omega)]
theorem take_points (l : List Ent) (h0 : 0 < l.length) (h1 : l.length ≤ 256) (hw : Wps l) (rest : List Int) : takeG (2 :: (Bq.ints (uv l.length) ++ ptsL l 0 0 0 ++ rest)) = if 0 < rest.length then recBad 8 else (2, 0, [], l, 0) := by
  rw [takeG_cons]
  unfold pointsG
  rw [if_neg (by decide), if_pos rfl, List.append_assoc, uget_uv l.length (by omega) (ptsL l 0 0 0 ++ rest)]
  have hd : (Bq.ints (uv l.length) ++ (ptsL l 0 0 0 ++ rest)).drop (uv l.length).length = ptsL l 0 0 0 ++ rest := by rw [← Bq.ints_length (uv l.length), List.drop_left]
  simp only [if_pos trivial, Int.toNat_natCast, hd, pts_put l hw 0 0 0 [] rest zero_a, List.nil_append]
  rw [if_neg (by omega), if_neg (by omega)]
theorem cut_series (n : Nat) (hn : n < 4294967296) (l2 : List Lab) (h0 : ¬ (n : Int) = 0) (hr : rightB l2 = 0) (i : Nat) (hi : i < (1 :: (Bq.ints (uv n) ++ putL l2)).length) : (takeG ((1 :: (Bq.ints (uv n) ++ putL l2)).take i)).2.2.2.2 = 6 := by
  rcases i with _ | i
  · rfl
  · rw [List.length_cons, List.length_append, Bq.ints_length] at hi
    rw [List.take_succ_cons]
    rw [takeG_cons]
    unfold seriesG
    rw [if_pos rfl]
    have h60 : ¬ (6 : Int) = 0 := by decide
    rcases cut_app (A := Bq.ints (uv n)) (B := putL l2) i with ⟨h1, e1⟩ | ⟨h1, e1⟩
    · rw [Bq.ints_length] at h1
      rw [e1, if_neg (by rw [uget_cut n (by omega) i h1]; decide)]
      exact uget_cut n (by omega) i h1
    · rw [Bq.ints_length] at h1
      rw [e1, Bq.ints_length, uget_uv n (by omega)]
      have hd : (Bq.ints (uv n) ++ (putL l2).take (i - (uv n).length)).drop (uv n).length = (putL l2).take (i - (uv n).length) := by
        have := List.drop_left (l₁ := Bq.ints (uv n)) (l₂ := (putL l2).take (i - (uv n).length))
        rwa [Bq.ints_length] at this
      have hc := take_cut l2 (i - (uv n).length) hr (by omega)
      simp only [if_pos trivial, Int.toNat_natCast, hd]
      rw [if_neg (by omega), hc, if_neg h60]
      rfl
theorem cut_points (l : List Ent) (h0 : 0 < l.length) (h1 : l.length ≤ 256) (hw : Wps l) (i : Nat) (hi : i < (2 :: (Bq.ints (uv l.length) ++ ptsL l 0 0 0)).length) : (takeG ((2 :: (Bq.ints (uv l.length) ++ ptsL l 0 0 0)).take i)).2.2.2.2 = 6 := by
  rcases i with _ | i
  · rfl
  · rw [List.length_cons, List.length_append, Bq.ints_length] at hi
    rw [List.take_succ_cons]
    rw [takeG_cons]
    unfold pointsG
    rw [if_neg (by decide), if_pos rfl]
    have h60 : ¬ (6 : Int) = 0 := by decide
    rcases cut_app (A := Bq.ints (uv l.length)) (B := ptsL l 0 0 0) i with ⟨h2, e1⟩ | ⟨h2, e1⟩
    · rw [Bq.ints_length] at h2
      rw [e1, if_neg (by rw [uget_cut l.length (by omega) i h2]; decide)]
      exact uget_cut l.length (by omega) i h2
    · rw [Bq.ints_length] at h2
      rw [e1, Bq.ints_length, uget_uv l.length (by omega)]
      have hd : (Bq.ints (uv l.length) ++ (ptsL l 0 0 0).take (i - (uv l.length).length)).drop (uv l.length).length = (ptsL l 0 0 0).take (i - (uv l.length).length) := by
        have := List.drop_left (l₁ := Bq.ints (uv l.length)) (l₂ := (ptsL l 0 0 0).take (i - (uv l.length).length))
        rwa [Bq.ints_length] at this
      have hc := pts_cut l hw 0 0 0 [] (i - (uv l.length).length) zero_a (by omega)
      simp only [if_pos trivial, Int.toNat_natCast, hd]
      rw [if_neg (by omega), if_neg (by omega), if_neg (by rw [hc]; exact h60)]
      exact hc
theorem okp_wps {l : List Ent} (h : Wps l) : Okp l := fun x hx => (h x hx).2.2.1
theorem take_backR (b : List Int) (hb : Byts b) (he : (takeG b).2.2.2.2 = 0) :
    putR (takeG b).1 (takeG b).2.1 (takeG b).2.2.1 (takeG b).2.2.2.1 = (b, 0) ∧ (takeG b).2.2.1.length ≤ 40 ∧ (∀ x ∈ (takeG b).2.2.1, x.f0.size ≤ 100000 ∧ x.f1.size ≤ 100000) ∧ (takeG b).2.2.2.1.length ≤ 1000000000 ∧ Okp (takeG b).2.2.2.1 ∧ 0 ≤ (takeG b).2.1 ∧ (takeG b).2.1 < 4294967296 := by
  cases b with
  | nil => exact absurd he (by decide)
  | cons x c =>
    have hc : Byts c := fun y hy => hb y (List.mem_cons_of_mem _ hy)
    rw [takeG_cons] at he ⊢
    by_cases h1 : x = 1
    · rw [if_pos h1] at he ⊢
      unfold seriesG at he ⊢
      rcases uget_cases c hc with ⟨n, h, hl, ht, hn⟩ | ⟨e, hne, h⟩
      · rw [h] at he ⊢
        simp only [if_pos trivial, Int.toNat_natCast] at he ⊢
        by_cases hor : (n : Int) = 0 ∨ (n : Int) > 4294967295
        · rw [if_pos hor] at he
          exact absurd he (by decide)
        · rw [if_neg hor] at he ⊢
          have n0 : ¬ (n : Int) = 0 := fun h => hor (.inl h)
          have ng : ¬ (n : Int) > 4294967295 := fun h => hor (.inr h)
          by_cases ht2 : (takeB (c.drop (uv n).length)).2.2 = 0
          · rw [if_pos ht2] at he ⊢
            obtain ⟨m, hm, hml, hp⟩ := take_back (c.drop (uv n).length) (byt_drop hc _) ht2
            rw [List.length_drop] at hml
            by_cases hend : ((uv n).length : Int) + (takeB (c.drop (uv n).length)).2.1 < (c.length : Int)
            · rw [if_pos hend] at he
              exact absurd he (by decide)
            · rw [if_neg hend]
              rw [hm] at hend
              have hmm : m = (c.drop (uv n).length).length := by rw [List.length_drop]; omega
              generalize (takeB (c.drop (uv n).length)).1 = ls at hp
              have hr : rightB ls = 0 := by
                unfold putB at hp
                by_cases hr : rightB ls = 0
                · exact hr
                · rw [if_neg hr] at hp
                  exact congrArg Prod.snd hp
              have hpl : putL ls = c.drop (uv n).length := by
                rw [← putB_ok hr, hp, hmm, List.take_length]
              obtain ⟨h16, hsh⟩ := right_short hr
              refine ⟨?_, ?_, ?_, ?_, ?_, ?_, ?_⟩
              · show putR 1 (n : Int) ls [] = _
                rw [put_series n ls n0 hr, hpl, ht, List.take_append_drop, h1]
              · show ls.length ≤ 40
                omega
              · intro y hy
                have := hsh y hy
                omega
              · show ([] : List Ent).length ≤ _
                simp
              · intro y hy
                cases hy
              · show 0 ≤ (n : Int)
                omega
              · show (n : Int) < 4294967296
                omega
          · rw [if_neg ht2] at he
            exact absurd he ht2
      · rw [h] at he
        simp only [if_neg hne] at he
        exact absurd he hne
    · rw [if_neg h1] at he ⊢
      by_cases h2 : x = 2
      · rw [if_pos h2] at he ⊢
        unfold pointsG at he ⊢
        rcases uget_cases c hc with ⟨n, h, hl, ht, hn⟩ | ⟨e, hne, h⟩
        · rw [h] at he ⊢
          simp only [if_pos trivial, Int.toNat_natCast] at he ⊢
          by_cases hg : (n : Int) > 256
          · rw [if_pos hg] at he
            exact absurd he (by decide)
          · rw [if_neg hg] at he ⊢
            by_cases n0 : (n : Int) = 0
            · rw [if_pos n0] at he
              exact absurd he (by decide)
            · rw [if_neg n0] at he ⊢
              by_cases hp : (ptsG n (c.drop (uv n).length) 0 0 0 []).1 = 0
              · rw [if_pos hp] at he ⊢
                obtain ⟨l, k1, k2, k3, k4⟩ := pts_back n (c.drop (uv n).length) (byt_drop hc _) 0 0 0 [] zero_a hp
                by_cases hend : 0 < (ptsG n (c.drop (uv n).length) 0 0 0 []).2.1.length
                · rw [if_pos hend] at he
                  exact absurd he (by decide)
                · rw [if_neg hend]
                  have hnil := List.eq_nil_of_length_eq_zero (show (ptsG n (c.drop (uv n).length) 0 0 0 []).2.1.length = 0 by omega)
                  rw [hnil, List.append_nil] at k4
                  rw [List.nil_append] at k3
                  refine ⟨?_, ?_, ?_, ?_, ?_, ?_, ?_⟩
                  · show putR 2 0 [] (ptsG n (c.drop (uv n).length) 0 0 0 []).2.2 = _
                    rw [k3, put_points l (by omega) (by omega) k2, k1, ← k4, ht, List.take_append_drop, h2]
                  · show ([] : List Lab).length ≤ 40
                    simp
                  · intro y hy
                    cases hy
                  · show (ptsG n (c.drop (uv n).length) 0 0 0 []).2.2.length ≤ _
                    rw [k3]
                    omega
                  · show Okp (ptsG n (c.drop (uv n).length) 0 0 0 []).2.2
                    rw [k3]
                    exact okp_wps k2
                  · exact Int.le_refl _
                  · show (0 : Int) < 4294967296
                    decide
              · rw [if_neg hp] at he
                exact absurd he hp
        · rw [h] at he
          simp only [if_neg hne] at he
          exact absurd he hne
      · rw [if_neg h2] at he
        exact absurd he (by decide)
theorem byt_pts : ∀ (l : List Ent) (r t s : Int), Byts (ptsL l r t s)
  | [], r, t, s => by intro x hx; cases hx
  | x :: l, r, t, s => by
    unfold ptsL ptL vI
    exact byt_app (byt_app (byt_app (byt_app (byt_uv _) (byt_uv _)) (byt_uv _)) (byt_be8 _)) (byt_pts l _ _ _)
theorem put_all (a0 a1 : Int) (l2 : List Lab) (l : List Ent) (hw : Wr l) (u0 : 0 ≤ a1) (u1 : a1 < 4294967296) (h : checkB a0 a1 l2 l = 0) : ∃ p : List Int, putR a0 a1 l2 l = (p, 0) ∧ Byts p ∧ (∀ rest : List Int, takeG (p ++ rest) = if 0 < rest.length then recBad 8 else (a0, a1, l2, l, 0)) ∧ (∀ i, i < p.length → (takeG (p.take i)).2.2.2.2 = 6) := by
  obtain ⟨n, rfl⟩ := Int.eq_ofNat_of_zero_le u0
  rcases check_cases hw h with ⟨rfl, n0, rfl, hr⟩ | ⟨rfl, n0, rfl, h0, h1, hp⟩
  · refine ⟨_, put_series n l2 n0 hr, ?_, fun rest => take_series n (by omega) l2 n0 hr rest, fun i hi => cut_series n (by omega) l2 n0 hr i hi⟩
    intro x hx
    rcases List.mem_cons.1 hx with rfl | hx
    · decide
    · exact byt_app (byt_uv _) (byt_putL _) x hx
  · rw [n0]
    refine ⟨_, put_points l h0 h1 hp, ?_, fun rest => take_points l h0 h1 hp rest, fun i hi => cut_points l h0 h1 hp i hi⟩
    intro x hx
    rcases List.mem_cons.1 hx with rfl | hx
    · decide
    · exact byt_app (byt_uv _) (byt_pts _ _ _ _) x hx
theorem back_j1 (a0 a1 : Int) (l2 : List Lab) (l : List Ent) (b : List Int) (z : Int) (hb : Byts b) (h6 : b.length ≤ 6000) (hw : Wr l) (u0 : 0 ≤ a1) (u1 : a1 < 4294967296) (h40 : l2.length ≤ 40) (h400 : l.length ≤ 400) (hs : ∀ x ∈ l2, x.f0.size ≤ 100000 ∧ x.f1.size ≤ 100000) :
    Ev (fun k => manometerlaw13_RecordBack.j1 k b z a0 a1 l2 l) true := by
  have hS : Sm l2 := ⟨by omega, hs⟩
  have ho : Okp l := fun x hx => (hw x hx).2.2.1
  have hput := (RPut_ev a0 a1 l2 l h40 hs (by omega) ho u0 u1).1
  have hchk := record_Check_ev a0 a1 l2 l hS (by omega)
  have hlen := putR_len a0 a1 l2 l h40 hs u0 u1
  refine Ev.step (f := _) (fun k => by simp only [manometerlaw13_RecordBack.j1]; rfl) ?_
  by_cases hc : checkB a0 a1 l2 l = 0
  · obtain ⟨p, hp, hbp, htk, hct⟩ := put_all a0 a1 l2 l hw u0 u1 hc
    rw [hp] at hput hlen
    rw [hc] at hchk
    have hlen : p.length ≤ 10000000 := hlen
    refine Ev.bind hput (Ev.bind hchk ?_)
    simp only [if_pos trivial, bne_self_eq_false]
    refine Ev.step (f := _) (fun k => by simp only [manometerlaw13_RecordBack.j2]; rfl) ?_
    simp only [Bool.false_eq_true, if_false]
    have ht0 := htk []
    rw [List.append_nil, if_neg (by simp)] at ht0
    have htake := RTake_ev p hbp (by omega)
    rw [ht0] at htake
    refine Ev.bind htake ?_
    simp only [if_pos trivial]
    have hsame := (RSame_ev a0 a1 a0 a1 l2 l2 l l (by omega) (by omega)).1
    rw [sameR_refl] at hsame
    refine Ev.bind hsame ?_
    refine Ev.step (f := _) (fun k => by simp only [manometerlaw13_RecordBack.j3]; rfl) ?_
    simp only [Bool.not_true, Bool.false_eq_true, if_false]
    have last : Ev (fun k => if z < 0 then some true else if z ≥ (p.length : Int) then some true else if 0 ≤ z then (if z ≤ (p.length : Int) then ((record_Take.f k (p.take (z : Int).toNat)).bind fun bt => some (bt.2.2.2.2 == 6)) else none) else none) true := by
      by_cases z0 : z < 0
      · simp only [if_pos z0]
        exact Ev.now _
      · by_cases z1 : z ≥ (p.length : Int)
        · simp only [if_neg z0, if_pos z1]
          exact Ev.now _
        · simp only [if_neg z0, if_neg z1, if_pos (show 0 ≤ z by omega), if_pos (show z ≤ (p.length : Int) by omega)]
          have h1 := RTake_ev (p.take z.toNat) (byt_take hbp _) (by rw [List.length_take]; omega)
          refine Ev.bind h1 ?_
          rw [hct z.toNat (by omega)]
          exact Ev.now _
    by_cases hb0 : (b.length : Int) > 0
    · simp only [if_pos hb0]
      have hj := Join_ev [p, b] (by simp) (by simp only [List.flatten_cons, List.flatten_nil, List.length_append, List.length_nil]; omega)
      have ej : [p, b].flatten = p ++ b := by simp
      rw [ej] at hj
      refine Ev.bind hj ?_
      have h2 := RTake_ev (p ++ b) (byt_app hbp hb) (by rw [List.length_append]; omega)
      rw [htk b, if_pos (by omega)] at h2
      refine Ev.bind h2 ?_
      simp only [recBad, if_pos trivial]
      exact last
    · simp only [if_neg hb0]
      exact last
  · have hp : putR a0 a1 l2 l = ([], checkB a0 a1 l2 l) := by unfold putR; rw [if_neg hc]
    rw [hp] at hput
    refine Ev.bind hput (Ev.bind hchk ?_)
    have hne : (checkB a0 a1 l2 l != 0) = true := bne_iff_ne.2 hc
    simp only [if_pos trivial, hne]
    refine Ev.step (f := _) (fun k => by simp only [manometerlaw13_RecordBack.j2]; rfl) ?_
    simp only [if_true]
    refine Ev.bind hchk ?_
    simp only [if_pos trivial]
    exact Ev.now _
theorem recordBack (a0 a1 : Int) (l2 : List Lab) (l : List Ent) (b : List Int) (z : Int) (hb : Byts b) (hw : Wr l) (u0 : 0 ≤ a1) (u1 : a1 < 4294967296) : ∃ k, manometerlaw13_RecordBack.f k a0 a1 l2 l b z = some true := by
  refine Ev.rounds (g := fun k => manometerlaw13_RecordBack.f k a0 a1 l2 l b z) ?_
  have hj0 : Ev (fun k => manometerlaw13_RecordBack.j0 k b z true a0 a1 l2 l) true := by
    refine Ev.step (f := _) (fun k => by simp only [manometerlaw13_RecordBack.j0]; rfl) ?_
    simp only [if_true]
    exact Ev.bind live_ev (Ev.now _)
  unfold manometerlaw13_RecordBack.f
  refine Ev.bind live_ev ?_
  simp only [if_true]
  obtain ⟨r, hr, hp⟩ := few_ev a0 a1 l2 l
  refine Ev.bind hr ?_
  cases r with
  | false =>
    simp only [Bool.false_eq_true, if_false]
    exact hj0
  | true =>
    simp only [if_true]
    by_cases h6 : (b.length : Int) > 6000
    · rw [decide_eq_true h6]
      exact hj0
    · rw [decide_eq_false h6]
      obtain ⟨⟨h40, h400⟩, hs0⟩ := hp rfl
      have hs : ∀ x ∈ l2, x.f0.size ≤ 100000 ∧ x.f1.size ≤ 100000 := fun x hx => by have := hs0 x hx; omega
      have hj1 := back_j1 a0 a1 l2 l b z hb (by omega) hw u0 u1 h40 h400 hs
      refine Ev.step (f := _) (fun k => by simp only [manometerlaw13_RecordBack.j0]; rfl) ?_
      simp only [Bool.false_eq_true, if_false]
      refine Ev.bind (RTake_ev b hb (by omega)) ?_
      by_cases he : (takeG b).2.2.2.2 = 0
      · simp only [if_pos he]
        obtain ⟨h1, h2, h3, h4, h5, h6', h7⟩ := take_backR b hb he
        have hput := (RPut_ev (takeG b).1 (takeG b).2.1 (takeG b).2.2.1 (takeG b).2.2.2.1 h2 h3 h4 h5 h6' h7).1
        rw [h1] at hput
        refine Ev.bind hput ?_
        simp only [if_pos trivial]
        have heq := Equal_ev b b (by omega)
        rw [decide_eq_true rfl] at heq
        refine Ev.bind heq ?_
        simp only [if_true, if_pos trivial]
        exact hj1
      · simp only [if_neg he]
        exact hj1
end Go.Proofs.YtdckhaejhfkkbaaDoor.Pu
end
section
namespace Go.Proofs.YtdckhaejhfkkbaaDoor
open Go.RowKit
set_option linter.unusedVariables false
theorem laid_plain {P : Program} {w : World} {l : List (String × DataW Unit)} (h : laidMetH P l w) (hf : (l.filter fun x => x.2.handleName?.isSome).isEmpty = true) : laidMet P l w := by
  unfold laidMetH at h
  split at h
  · exact h
  · rename_i h2
    rw [h2] at hf
    cases hf
end Go.Proofs.YtdckhaejhfkkbaaDoor
end
section
namespace Go.Proofs.YtdckhaejhfkkbaaDoor
open Go Go.RowKit Go.Shelf
set_option linter.unusedVariables false
theorem first_same : Go.Pinned.utf8First = Lib.firstData := by kernel_rfl
theorem accept_same : (Rows.laid_unicode_utf8_acceptRanges : DataW Unit) = Lib.acceptData := by kernel_rfl
theorem tab_of {w : World} (h : laidMetH Tryd.prog [("unicode/utf8.acceptRanges", Rows.laid_unicode_utf8_acceptRanges), ("unicode/utf8.first", Rows.laid_unicode_utf8_first)] w) : Tab w := by
  have hp := laid_plain h (by kernel_rfl)
  have h4 := Lib.laidMet.reads hp (List.Mem.head _)
  have h3 := Lib.laidMet.reads hp (List.Mem.tail _ (List.Mem.head _))
  rw [accept_same] at h4
  rw [show Rows.laid_unicode_utf8_first = Go.Pinned.utf8First from rfl, first_same] at h3
  exact utf8Tabs_of_readsT (U8Types.of196 Tryd.laysValid) ⟨by kernel_rfl, by kernel_rfl, by kernel_rfl, by kernel_rfl, by kernel_rfl, by kernel_rfl, by kernel_rfl⟩ h3 h4
end Go.Proofs.YtdckhaejhfkkbaaDoor
end
section
namespace Go.Proofs.YtdckhaejhfkkbaaDoor
open Go.RowKit Go.Proofs.YtdckhaejhfkkbaaDoorW.PrintWords Go.Proofs.YtdckhaejhfkkbaaDoorW.PrintMore Go.Proofs.YtdckhaejhfkkbaaDoorW.PrintLast Go.Deep
set_option linter.unusedVariables false
section
variable {H : Type} {enc : TypeId × Value → H} {P : Program} {w : World} {base : Nat} {spare : Nat → Bool} {held : Bool}
theorem opens_iso {α β : Type} {d : Kd α} {wf : α → Prop} {t : TypeId} (f : β → α) (g : α → β) (hg : ∀ y, f (g y) = y) (h : Opens enc P w base spare held t d wf) :
    Opens enc P w base spare held t (Kd.iso d f) (fun x => wf (f x)) := by
  intro fuel cs x hx
  obtain ⟨a, hK, hw⟩ := h fuel cs x hx
  refine ⟨g a, ?_, ?_⟩
  · show d.K w (f (g a)) cs
    rw [hg]
    exact hK
  · show wf (f (g a))
    rw [hg]
    exact hw
theorem opens_val {α : Type} {d : Kd α} {wf : α → Prop} {t : TypeId} {cs : Array Value} {x : DataW H} {ps : List MemPlace} (h : Opens enc P w base spare held t d wf)
    (hT : DataW.Trod enc P w base spare held t (.agg cs) x ps) : ∃ a, d.K w a cs.toList ∧ wf a := by
  obtain ⟨fuel, hf⟩ := hT
  exact h fuel _ _ hf
end
end Go.Proofs.YtdckhaejhfkkbaaDoor
end
