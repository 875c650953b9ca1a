import Derived.Test.YtdckhaejhfkkbaaDoorCRecordTakesRV
import Derived.Test.YtdckhaejhfkkbaaDoorCRecordTakesRS
import Derived.Test.YtdckhaejhfkkbaaDoorCRecordTakesPRTx6
import Derived.Test.YtdckhaejhfkkbaaDoorCRecordTakesPRTx14
import Derived.Test.YtdckhaejhfkkbaaDoorCRecordTakesPRTx15
namespace Go.Proofs.YtdckhaejhfkkbaaDoor.Bq
end Go.Proofs.YtdckhaejhfkkbaaDoor.Bq
namespace Go.Proofs.YtdckhaejhfkkbaaDoor.Pu
open Go Go.RowKit Go.Proofs.YtdckhaejhfkkbaaDoor Go.Proofs.YtdckhaejhfkkbaaDoor.PRT Go.Proofs.YtdckhaejhfkkbaaDoorW.PrintWords Go.Proofs.YtdckhaejhfkkbaaDoorW.PrintLast Go.Proofs.YtdckhaejhfkkbaaDoorW.PrintMore Bq
set_option linter.unusedVariables false
set_option linter.unusedSimpArgs false
theorem few1_err (b : List Int) (a e : Int) (he : ¬ e = 0) : Ev (fun k => few1 k b a e) (0, a, e) := by
  unfold few1
  simp only [if_neg he]
  exact Ev.now _
theorem few1_ok (b : List Int) (hb : Byts b) (hs : b.length ≤ 1000000000) (a : Nat) (ha : a ≤ b.length) : Ev (fun k => few1 k b (a : Int) 0) ((varG (b.drop a)).1, wrap64 ((a : Int) + (varG (b.drop a)).2.1), (varG (b.drop a)).2.2) := by
  unfold few1
  simp only [if_pos trivial, if_pos (show (0 : Int) ≤ (a : Int) by omega), if_pos (show (a : Int) ≤ (b.length : Int) by omega), Int.toNat_natCast]
  have h := (Varint_ev (b.drop a) (byt_drop hb a) (by rw [List.length_drop]; omega)).1
  exact Ev.bind h (Ev.now _)
theorem few1_cases (b : List Int) (hb : Byts b) (hs : b.length ≤ 1000000000) (a : Nat) (ha : a ≤ b.length) :
    (∃ e : Int, ¬ e = 0 ∧ Ev (fun k => few1 k b (a : Int) 0) (0, (a : Int), e) ∧ Ev (fun k => manometerref01_Varint.f k (b.drop a)) (0, 0, e)) ∨
    (∃ (v : Int) (n : Nat), a + n ≤ b.length ∧ Ev (fun k => few1 k b (a : Int) 0) (v, ((a + n : Nat) : Int), 0) ∧ Ev (fun k => manometerref01_Varint.f k (b.drop a)) (v, (n : Int), 0)) := by
  have h1 := few1_ok b hb hs a ha
  have h2 := (Varint_ev (b.drop a) (byt_drop hb a) (by rw [List.length_drop]; omega)).2
  rcases varG_cases (b.drop a) (byt_drop hb a) with ⟨v, n, hn, h⟩ | ⟨e, he, h⟩
  · rw [h] at h1 h2
    rw [List.length_drop] at hn
    refine .inr ⟨v, n, by omega, ?_, h2⟩
    have e : wrap64 ((a : Int) + (n : Int)) = ((a + n : Nat) : Int) := wn (by omega) (by omega)
    simp only [e] at h1
    exact h1
  · rw [h] at h1 h2
    refine .inl ⟨e, he, ?_, h2⟩
    have e : wrap64 ((a : Int) + 0) = (a : Int) := wn (by omega) (by omega)
    simp only [e] at h1
    exact h1
theorem refN_bd (r v : Int) : 0 ≤ refN r v := by unfold refN; rw [IntKind.wrap_u64]; omega
theorem step_both (b : List Int) (hb : Byts b) (hs : b.length ≤ 1000000000) (a : Nat) (ha : a ≤ b.length) (r t s v : Int) :
    (∃ e : Int, ¬ e = 0 ∧ Ev (fun k => recStep k b (a : Int) r t s) (e, 0, 0, 0, 0, 0) ∧ Ev (fun k => manometerref13_one.f k (b.drop a) r t v s) (r, t, v, s, ([] : List Int), e)) ∨
    (∃ (a' : Nat) (r' t' v' s' : Int), a' ≤ b.length ∧ Ev (fun k => recStep k b (a : Int) r t s) (0, (a' : Int), r', t', v', s') ∧ Ev (fun k => manometerref13_one.f k (b.drop a) r t v s) (r', t', v', s', b.drop a', 0)) := by
  unfold recStep manometerref13_one.f
  rcases few1_cases b hb hs a ha with ⟨e, he, f1, g1⟩ | ⟨v1, n1, hn1, f1, g1⟩
  · refine .inl ⟨e, he, ?_, ?_⟩
    · refine Ev.bind f1 ?_
      have x1 : errR e (refN r 0) = e := by unfold errR; rw [if_neg he]
      simp only [x1]
      refine Ev.bind (few1_err b _ e he) ?_
      refine Ev.bind (few1_err b _ e he) ?_
      have x2 : ∀ z y : Int, errN (errS e z) y = e := fun z y => by unfold errN errS; rw [if_neg he, if_neg he]
      simp only [x2, if_neg he]
      exact Ev.now _
    · refine Ev.bind g1 ?_
      simp only [if_neg he]
      exact Ev.now _
  · have d1 : (n1 : Int) ≤ ((b.drop a).length : Int) := by rw [List.length_drop]; omega
    have dd1 : (b.drop a).drop n1 = b.drop (a + n1) := List.drop_drop
    have hone : (1 : Int) ≠ 0 := by decide
    by_cases hr : refN r v1 = 0 ∨ refN r v1 > 4294967295
    · refine .inl ⟨1, hone, ?_, ?_⟩
      · refine Ev.bind f1 ?_
        have x1 : errR 0 (refN r v1) = 1 := by
          unfold errR
          rw [if_pos rfl]
          rcases hr with hr | hr
          · rw [if_pos hr]
          · by_cases h0 : refN r v1 = 0
            · rw [if_pos h0]
            · rw [if_neg h0, if_pos hr]
        simp only [x1]
        refine Ev.bind (few1_err b _ 1 hone) ?_
        refine Ev.bind (few1_err b _ 1 hone) ?_
        have x2 : ∀ z y : Int, errN (errS 1 z) y = 1 := fun z y => by unfold errN errS; rw [if_neg hone, if_neg hone]
        simp only [x2, if_neg hone]
        exact Ev.now _
      · refine Ev.bind g1 ?_
        simp only [if_pos trivial, if_pos (show (0 : Int) ≤ (n1 : Int) by omega), if_pos d1, Option.bind_some, Int.toNat_natCast]
        have hfold : IntKind.u64.wrap (IntKind.u64.wrap r + IntKind.u64.wrap v1) = refN r v1 := rfl
        simp only [hfold]
        have hj : ∀ y x, Ev (fun k => manometerref13_one.j0 k y x true r t v s) (r, t, v, s, ([] : List Int), 1) := fun y x => by
          refine Ev.step (f := _) (fun k => by simp only [manometerref13_one.j0]; rfl) ?_
          simp only [if_true]
          exact Ev.now _
        by_cases h1 : refN r v1 < 1
        · simp only [if_pos h1]
          exact hj _ _
        · have hbd := refN_bd r v1
          have hg : refN r v1 > 4294967295 := by
            rcases hr with hr | hr
            · omega
            · exact hr
          simp only [if_neg h1, decide_eq_true hg]
          exact hj _ _
    · have hbd := refN_bd r v1
      have h0 : ¬ refN r v1 = 0 := fun h => hr (.inl h)
      have hg : ¬ refN r v1 > 4294967295 := fun h => hr (.inr h)
      have h1 : ¬ refN r v1 < 1 := by omega
      have x1 : errR 0 (refN r v1) = 0 := by unfold errR; rw [if_pos rfl, if_neg h0, if_neg hg]
      have hfold : IntKind.u64.wrap (IntKind.u64.wrap r + IntKind.u64.wrap v1) = refN r v1 := rfl
      have ref2 : ∀ q, Ev (fun k => manometerref13_one.j0 k (b.drop (a + n1)) (refN r v1) false r t v s) q → Ev (fun k => (manometerref01_Varint.f k (b.drop a)).bind fun bt316 => (if bt316.2.2 = 0 then (if 0 ≤ bt316.2.1 then (if bt316.2.1 ≤ ((b.drop a).length : Int) then ((some ((b.drop a).drop (bt316.2.1 : Int).toNat : List Int)).bind fun y319 => (if (IntKind.u64.wrap ((IntKind.u64.wrap (r)) + (IntKind.u64.wrap (bt316.1)))) < 1 then (manometerref13_one.j0 k y319 (IntKind.u64.wrap ((IntKind.u64.wrap (r)) + (IntKind.u64.wrap (bt316.1)))) true r t v s) else (manometerref13_one.j0 k y319 (IntKind.u64.wrap ((IntKind.u64.wrap (r)) + (IntKind.u64.wrap (bt316.1)))) (decide ((IntKind.u64.wrap ((IntKind.u64.wrap (r)) + (IntKind.u64.wrap (bt316.1)))) > 4294967295)) r t v s))) else (none)) else (none)) else (some (r, t, v, s, ([] : List Int), bt316.2.2)))) q := by
        intro q hq
        refine Ev.bind g1 ?_
        simp only [if_pos trivial, if_pos (show (0 : Int) ≤ (n1 : Int) by omega), if_pos d1, Option.bind_some, Int.toNat_natCast, dd1, hfold, if_neg h1, decide_eq_false hg]
        exact hq
      rcases few1_cases b hb hs (a + n1) hn1 with ⟨e, he, f2, g2⟩ | ⟨v2, n2, hn2, f2, g2⟩
      · refine .inl ⟨e, he, ?_, ref2 _ ?_⟩
        · refine Ev.bind f1 ?_
          simp only [x1]
          refine Ev.bind f2 ?_
          refine Ev.bind (few1_err b _ e he) ?_
          have x2 : ∀ z y : Int, errN (errS e z) y = e := fun z y => by unfold errN errS; rw [if_neg he, if_neg he]
          simp only [x2, if_neg he]
          exact Ev.now _
        · refine Ev.step (f := _) (fun k => by simp only [manometerref13_one.j0]; rfl) ?_
          simp only [Bool.false_eq_true, if_false]
          refine Ev.bind g2 ?_
          simp only [if_neg he]
          exact Ev.now _
      · have d2 : (n2 : Int) ≤ ((b.drop (a + n1)).length : Int) := by rw [List.length_drop]; omega
        have dd2 : (b.drop (a + n1)).drop n2 = b.drop (a + n1 + n2) := List.drop_drop
        rcases few1_cases b hb hs (a + n1 + n2) hn2 with ⟨e, he, f3, g3⟩ | ⟨v3, n3, hn3, f3, g3⟩
        · refine .inl ⟨e, he, ?_, ref2 _ ?_⟩
          · refine Ev.bind f1 ?_
            simp only [x1]
            refine Ev.bind f2 ?_
            refine Ev.bind f3 ?_
            have x2 : ∀ z y : Int, errN (errS e z) y = e := fun z y => by unfold errN errS; rw [if_neg he, if_neg he]
            simp only [x2, if_neg he]
            exact Ev.now _
          · refine Ev.step (f := _) (fun k => by simp only [manometerref13_one.j0]; rfl) ?_
            simp only [Bool.false_eq_true, if_false]
            refine Ev.bind g2 ?_
            simp only [if_pos trivial, if_pos (show (0 : Int) ≤ (n2 : Int) by omega), if_pos d2, Option.bind_some, Int.toNat_natCast, dd2]
            refine Ev.bind g3 ?_
            simp only [if_neg he]
            exact Ev.now _
        · have d3 : (n3 : Int) ≤ ((b.drop (a + n1 + n2)).length : Int) := by rw [List.length_drop]; omega
          have dd3 : (b.drop (a + n1 + n2)).drop n3 = b.drop (a + n1 + n2 + n3) := List.drop_drop
          have hsq : IntKind.u64.wrap (s + IntKind.u64.wrap v3) = seqN s v3 := rfl
          obtain ⟨a3, ha3⟩ : ∃ a3, a3 = a + n1 + n2 + n3 := ⟨_, rfl⟩
          rw [← ha3] at hn3 f3 dd3
          have hw : wrap64 ((b.length : Int) - (a3 : Int)) = ((b.length - a3 : Nat) : Int) := wn (by omega) (by omega)
          have ref3 : ∀ q, Ev (fun k => (if (seqN s v3) = 0 then (some (r, t, v, s, ([] : List Int), (1 : Int))) else (if ((b.drop a3).length : Int) < 8 then (some (r, t, v, s, ([] : List Int), 6)) else (if 8 ≤ ((b.drop a3).length : Int) then ((manometerref01_Of.f k ((b.drop a3).take 8)).bind fun t346 => (some ((refN r v1) % 4294967296, wrap64 (IntKind.u64.wrap ((IntKind.u64.wrap (t)) + (IntKind.u64.wrap (v2)))), t346, seqN s v3, ((b.drop a3).drop 8), 0))) else (none))))) q → Ev (fun k => manometerref13_one.j0 k (b.drop (a + n1)) (refN r v1) false r t v s) q := by
            intro q hq
            refine Ev.step (f := _) (fun k => by simp only [manometerref13_one.j0]; rfl) ?_
            simp only [Bool.false_eq_true, if_false]
            refine Ev.bind g2 ?_
            simp only [if_pos trivial, if_pos (show (0 : Int) ≤ (n2 : Int) by omega), if_pos d2, Option.bind_some, Int.toNat_natCast, dd2]
            refine Ev.bind g3 ?_
            simp only [if_pos trivial, if_pos (show (0 : Int) ≤ (n3 : Int) by omega), if_pos d3, Option.bind_some, Int.toNat_natCast, dd3, hsq]
            exact hq
          by_cases hz : seqN s v3 = 0
          · refine .inl ⟨1, hone, ?_, ref2 _ (ref3 _ ?_)⟩
            · refine Ev.bind f1 ?_
              simp only [x1]
              refine Ev.bind f2 ?_
              refine Ev.bind f3 ?_
              have x2 : ∀ y : Int, errN (errS 0 (seqN s v3)) y = 1 := fun y => by unfold errN errS; rw [if_pos rfl, if_pos hz, if_neg hone]
              simp only [x2, if_neg hone]
              exact Ev.now _
            · simp only [if_pos hz]
              exact Ev.now _
          · have x3 : errS 0 (seqN s v3) = 0 := by unfold errS; rw [if_pos rfl, if_neg hz]
            have hl3 : (b.drop a3).length = b.length - a3 := List.length_drop
            by_cases h8 : b.length - a3 < 8
            · have h6 : ¬ (6 : Int) = 0 := by decide
              refine .inl ⟨6, h6, ?_, ref2 _ (ref3 _ ?_)⟩
              · refine Ev.bind f1 ?_
                simp only [x1]
                refine Ev.bind f2 ?_
                refine Ev.bind f3 ?_
                have x4 : errN 0 ((b.length - a3 : Nat) : Int) = 6 := by
                  unfold errN
                  rw [if_pos rfl, if_pos (by clear hw; omega)]
                simp only [x3, hw, x4, if_neg h6]
                exact Ev.now _
              · simp only [if_neg hz, if_pos (show ((b.drop a3).length : Int) < 8 by rw [hl3]; clear hw; omega)]
                exact Ev.now _
            · refine .inr ⟨a3 + 8, refN r v1 % 4294967296, wrap64 (t + v2), ((b.drop a3).take 8).foldl v8 0, seqN s v3, by clear hw; omega, ?_, ref2 _ (ref3 _ ?_)⟩
              · refine Ev.bind f1 ?_
                simp only [x1]
                refine Ev.bind f2 ?_
                refine Ev.bind f3 ?_
                have x4 : errN 0 ((b.length - a3 : Nat) : Int) = 0 := by
                  unfold errN
                  rw [if_pos rfl, if_neg (by clear hw; omega)]
                have c1 : (0 : Int) ≤ (a3 : Int) := by clear hw; omega
                have c2 : ((a3 + 8 : Nat) : Int) ≤ (b.length : Int) := by clear hw; omega
                have c3 : (b.length : Int) ≤ 1000000000000 := by clear hw; omega
                have c4 : (a3 : Int) + 8 = ((a3 + 8 : Nat) : Int) := by clear hw; omega
                simp only [x3, hw, x4, if_pos trivial, if_pos c1, if_pos c2, if_pos c3, Int.toNat_natCast, c4]
                exact Ev.now _
              · have hof := Of_ev ((b.drop a3).take 8) (byt_take (byt_drop hb a3) 8) (by rw [List.length_take, hl3]; clear hw; omega)
                have q1 : ¬ ((b.drop a3).length : Int) < 8 := by rw [hl3]; clear hw; omega
                have q2 : (8 : Int) ≤ ((b.drop a3).length : Int) := by rw [hl3]; clear hw; omega
                have hdd : (b.drop a3).drop 8 = b.drop (a3 + 8) := List.drop_drop
                have htt : wrap64 (IntKind.u64.wrap (IntKind.u64.wrap t + IntKind.u64.wrap v2)) = wrap64 (t + v2) := by
                  clear hw
                  simp only [IntKind.wrap_u64]
                  unfold wrap64
                  omega
                simp only [if_neg hz, if_neg q1, if_pos q2, hdd, htt]
                exact Ev.bind hof (Ev.now _)
theorem loop_both (b : List Int) (hb : Byts b) (hs : b.length ≤ 1000000000) (N : Nat) (hN : N ≤ 256) : ∀ (m a i : Nat) (r t s v : Int) (out : List Ent), a ≤ b.length → i + m = N → out.length = i →
    (∃ e : Int, ¬ e = 0 ∧ Ev (fun k => recLoop k b m (a : Int) r t s out) (e, 0, []) ∧ Ev (fun k => manometerref13_Take.l0 k (b.drop a) (N : Int) (i : Int) 2 0 out r t v s) ((0 : Int), (0 : Int), ([] : List Lab), ([] : List Ent), e)) ∨
    (∃ (a' : Nat) (out' : List Ent), a' ≤ b.length ∧ out'.length ≤ 256 ∧ Ev (fun k => recLoop k b m (a : Int) r t s out) (0, (a' : Int), out') ∧ Ev (fun k => manometerref13_Take.l0 k (b.drop a) (N : Int) (i : Int) 2 0 out r t v s) (if a' < b.length then ((0 : Int), (0 : Int), ([] : List Lab), ([] : List Ent), (8 : Int)) else (2, 0, [], out', 0)))
  | 0, a, i, r, t, s, v, out, ha, hi, ho => by
    refine .inr ⟨a, out, ha, by omega, ?_, ?_⟩
    · unfold recLoop
      exact Ev.now _
    · refine Ev.step (f := _) (fun k => by simp only [manometerref13_Take.l0]; rfl) ?_
      simp only [if_neg (show ¬ (i : Int) < (N : Int) by omega)]
      have hl : (b.drop a).length = b.length - a := List.length_drop
      by_cases h : a < b.length
      · simp only [if_pos h, if_pos (show ((b.drop a).length : Int) > 0 by omega)]
        exact Ev.now _
      · simp only [if_neg h, if_neg (show ¬ ((b.drop a).length : Int) > 0 by omega)]
        exact Ev.now _
  | m + 1, a, i, r, t, s, v, out, ha, hi, ho => by
    have hol : out.length < 4398046511104 := by omega
    have hil : (i : Int) < (N : Int) := by omega
    have hw := w1 i (by omega)
    rcases step_both b hb hs a ha r t s v with ⟨e, he, f1, g1⟩ | ⟨a', r', t', v', s', ha', f1, g1⟩
    · refine .inl ⟨e, he, ?_, ?_⟩
      · unfold recLoop
        refine Ev.bind f1 ?_
        simp only [if_neg he]
        exact Ev.now _
      · refine Ev.step (f := _) (fun k => by simp only [manometerref13_Take.l0]; rfl) ?_
        simp only [if_pos hil]
        refine Ev.bind g1 ?_
        simp only [if_neg he]
        exact Ev.now _
    · have ih := loop_both b hb hs N hN m a' (i + 1) r' t' s' v' (out ++ [⟨r', ⟨t', v', s'⟩⟩]) ha' (by omega) (by rw [List.length_append, ho]; rfl)
      have F : ∀ q, Ev (fun k => recLoop k b m (a' : Int) r' t' s' (out ++ [⟨r', ⟨t', v', s'⟩⟩])) q → Ev (fun k => recLoop k b (m + 1) (a : Int) r t s out) q := by
        intro q hq
        unfold recLoop
        refine Ev.bind f1 ?_
        simp only [if_pos trivial]
        exact hq
      have G : ∀ q, Ev (fun k => manometerref13_Take.l0 k (b.drop a') (N : Int) ((i + 1 : Nat) : Int) 2 0 (out ++ [⟨r', ⟨t', v', s'⟩⟩]) r' t' v' s') q → Ev (fun k => manometerref13_Take.l0 k (b.drop a) (N : Int) (i : Int) 2 0 out r t v s) q := by
        intro q hq
        refine Ev.step (f := _) (fun k => by simp only [manometerref13_Take.l0]; rfl) ?_
        simp only [if_pos hil]
        refine Ev.bind g1 ?_
        simp only [if_pos trivial, if_pos hol, hw]
        exact hq
      rcases ih with ⟨e, he, f2, g2⟩ | ⟨a2, out2, ha2, ho2, f2, g2⟩
      · exact .inl ⟨e, he, F _ f2, G _ g2⟩
      · exact .inr ⟨a2, out2, ha2, ho2, F _ f2, G _ g2⟩
theorem takesL_len : ∀ (n : Nat) (r : List Int) (acc : List Lab), (takesL n r acc).1.length ≤ acc.length + n
  | 0, r, acc => by unfold takesL; exact Nat.le_refl _
  | n + 1, r, acc => by
    unfold takesL
    split
    · split
      · have := takesL_len n (tookL (tookL r 64).2.1 128).2.1 (acc ++ [⟨(tookL r 64).1, (tookL (tookL r 64).2.1 128).1⟩])
        rw [List.length_append, List.length_singleton] at this
        omega
      · simp
    · simp
theorem takeB_bd (b : List Int) (h : (takeB b).2.2 = 0) : (∃ m : Nat, m ≤ b.length ∧ (takeB b).2.1 = (m : Int)) ∧ (takeB b).1.length ≤ 1000 := by
  unfold takeB at h ⊢
  split
  · rename_i h0
    rw [if_pos h0] at h
    split
    · exact ⟨⟨0, Nat.zero_le _, rfl⟩, by simp⟩
    · rename_i h1
      rw [if_neg h1] at h
      have hlen := takesL_len (uget b).1.toNat (b.drop (uget b).2.1.toNat) []
      unfold takeEnd at h ⊢
      split
      · rename_i h2
        split
        · refine ⟨⟨_, Nat.sub_le _ _, rfl⟩, ?_⟩
          show (takesL _ _ _).1.length ≤ 1000
          rw [List.length_nil] at hlen
          omega
        · exact ⟨⟨0, Nat.zero_le _, rfl⟩, by simp⟩
      · exact ⟨⟨0, Nat.zero_le _, rfl⟩, by simp⟩
  · exact ⟨⟨0, Nat.zero_le _, rfl⟩, by simp⟩
def SameT (f g : Nat → Option (Int × Int × List Lab × List Ent × Int)) : Prop := ∃ q : Int × Int × List Lab × List Ent × Int, q.2.2.1.length ≤ 1000 ∧ q.2.2.2.1.length ≤ 1000 ∧ Ev f q ∧ Ev g q
theorem SameT.now (q : Int × Int × List Lab × List Ent × Int) (h : q.2.2.1.length ≤ 1000) (h' : q.2.2.2.1.length ≤ 1000) : SameT (fun _ => some q) (fun _ => some q) := ⟨q, h, h', Ev.now _, Ev.now _⟩
theorem series_both (b : List Int) (hb : Byts b) (hs : b.length ≤ 1000000000) : SameT (fun k => record_series.f k b) (fun k => manometerref13_series.f k b) := by
  obtain ⟨u1, u2⟩ := Uvarint_ev b hb (by omega)
  unfold record_series.f manometerref13_series.f
  rcases uget_cases b hb with ⟨n, h, hl, _, hn⟩ | ⟨e, he, h⟩
  · rw [h] at u1 u2
    obtain ⟨L, hL⟩ : ∃ L, L = (uv n).length := ⟨_, rfl⟩
    rw [← hL] at u1 u2 hl
    have bad : ∀ x y, Ev (fun k => record_series.j0 k b x y true) ((0 : Int), (0 : Int), ([] : List Lab), ([] : List Ent), (1 : Int)) ∧ Ev (fun k => manometerref13_series.j0 k b x y true) ((0 : Int), (0 : Int), ([] : List Lab), ([] : List Ent), (1 : Int)) := by
      intro x y
      constructor
      · refine Ev.step (f := _) (fun k => by simp only [record_series.j0]; rfl) ?_
        simp only [if_true]
        exact Ev.now _
      · refine Ev.step (f := _) (fun k => by simp only [manometerref13_series.j0]; rfl) ?_
        simp only [if_true]
        exact Ev.now _
    by_cases h0 : n = 0
    · subst h0
      refine ⟨((0 : Int), (0 : Int), ([] : List Lab), ([] : List Ent), (1 : Int)), by simp, by simp, ?_, ?_⟩
      · refine Ev.bind u1 ?_
        simp only [if_pos trivial, if_pos (show ((0 : Nat) : Int) = 0 from rfl)]
        exact (bad _ _).1
      · refine Ev.bind u2 ?_
        simp only [if_pos trivial, if_pos (show ((0 : Nat) : Int) < 1 by decide)]
        exact (bad _ _).2
    · have n0 : ¬ (n : Int) = 0 := by omega
      have n1 : ¬ (n : Int) < 1 := by omega
      by_cases hg : (n : Int) > 4294967295
      · refine ⟨((0 : Int), (0 : Int), ([] : List Lab), ([] : List Ent), (1 : Int)), by simp, by simp, ?_, ?_⟩
        · refine Ev.bind u1 ?_
          simp only [if_pos trivial, if_neg n0, decide_eq_true hg]
          exact (bad _ _).1
        · refine Ev.bind u2 ?_
          simp only [if_pos trivial, if_neg n1, decide_eq_true hg]
          exact (bad _ _).2
      · have hd : (b.drop L).length = b.length - L := List.length_drop
        obtain ⟨t1, t2⟩ := Take_ev (b.drop L) (byt_drop hb L) (by omega)
        have hbd := takeB_bd (b.drop L)
        generalize takeB (b.drop L) = T at t1 t2 hbd
        obtain ⟨ls, M, e⟩ := T
        have c1 : (0 : Int) ≤ (L : Int) := by omega
        have c2 : (L : Int) ≤ (b.length : Int) := by omega
        have F : ∀ q, Ev (fun k => (labels_Take.f k (b.drop L)).bind fun bt138 => (if bt138.2.2 = 0 then (if (wrap64 ((L : Int) + bt138.2.1)) < (b.length : Int) then (some ((0 : Int), (0 : Int), ([] : List Lab), ([] : List Ent), (8 : Int))) else (some (1, ((n : Int)) % 4294967296, bt138.1, ([] : List Ent), 0))) else (some (0, 0, ([] : List Lab), ([] : List Ent), bt138.2.2)))) q →
            Ev (fun k => (bits_Uvarint.f k b).bind fun bt134 => (if bt134.2.2 = 0 then (if bt134.1 = 0 then (record_series.j0 k b bt134.1 bt134.2.1 true) else (record_series.j0 k b bt134.1 bt134.2.1 (decide (bt134.1 > 4294967295)))) else (some (0, 0, ([] : List Lab), ([] : List Ent), bt134.2.2)))) q := by
          intro q hq
          refine Ev.bind u1 ?_
          simp only [if_pos trivial, if_neg n0, decide_eq_false hg]
          refine Ev.step (f := _) (fun k => by simp only [record_series.j0]; rfl) ?_
          simp only [Bool.false_eq_true, if_false, if_pos c1, if_pos c2, Int.toNat_natCast]
          exact hq
        have G : ∀ q, Ev (fun k => (manometerref05_Take.f k (b.drop L)).bind fun bt293 => (if bt293.2.2 = 0 then (if (wrap64 ((L : Int) + bt293.2.1)) = (b.length : Int) then (some ((1 : Int), ((n : Int)) % 4294967296, bt293.1, ([] : List Ent), (0 : Int))) else (some (0, 0, ([] : List Lab), ([] : List Ent), 8))) else (some (0, 0, ([] : List Lab), ([] : List Ent), bt293.2.2)))) q →
            Ev (fun k => (manometerref01_Uvarint.f k b).bind fun bt289 => (if bt289.2.2 = 0 then (if bt289.1 < 1 then (manometerref13_series.j0 k b bt289.1 bt289.2.1 true) else (manometerref13_series.j0 k b bt289.1 bt289.2.1 (decide (bt289.1 > 4294967295)))) else (some (0, 0, ([] : List Lab), ([] : List Ent), bt289.2.2)))) q := by
          intro q hq
          refine Ev.bind u2 ?_
          simp only [if_pos trivial, if_neg n1, decide_eq_false hg]
          refine Ev.step (f := _) (fun k => by simp only [manometerref13_series.j0]; rfl) ?_
          simp only [Bool.false_eq_true, if_false, if_pos c1, if_pos c2, Int.toNat_natCast]
          exact hq
        by_cases he : e = 0
        · subst he
          obtain ⟨⟨m, hm, hM⟩, hls⟩ := hbd rfl
          have hM : M = (m : Int) := hM
          subst hM
          have hw : wrap64 ((L : Int) + (m : Int)) = ((L + m : Nat) : Int) := wn (by omega) (by omega)
          by_cases hend : L + m < b.length
          · refine ⟨((0 : Int), (0 : Int), ([] : List Lab), ([] : List Ent), (8 : Int)), by simp, by simp, F _ ?_, G _ ?_⟩
            · refine Ev.bind t1 ?_
              have c3 : ((L + m : Nat) : Int) < (b.length : Int) := by clear hw; omega
              simp only [if_pos trivial, hw, if_pos c3]
              exact Ev.now _
            · refine Ev.bind t2 ?_
              have c3 : ¬ ((L + m : Nat) : Int) = (b.length : Int) := by clear hw; omega
              simp only [if_pos trivial, hw, if_neg c3]
              exact Ev.now _
          · refine ⟨((1 : Int), (n : Int) % 4294967296, ls, ([] : List Ent), (0 : Int)), hls, by simp, F _ ?_, G _ ?_⟩
            · refine Ev.bind t1 ?_
              have c3 : ¬ ((L + m : Nat) : Int) < (b.length : Int) := by clear hw; omega
              simp only [if_pos trivial, hw, if_neg c3]
              exact Ev.now _
            · refine Ev.bind t2 ?_
              have c3 : ((L + m : Nat) : Int) = (b.length : Int) := by clear hw; omega
              simp only [if_pos trivial, hw, if_pos c3]
              exact Ev.now _
        · refine ⟨((0 : Int), (0 : Int), ([] : List Lab), ([] : List Ent), e), by simp, by simp, F _ ?_, G _ ?_⟩
          · refine Ev.bind t1 ?_
            simp only [if_neg he]
            exact Ev.now _
          · refine Ev.bind t2 ?_
            simp only [if_neg he]
            exact Ev.now _
  · rw [h] at u1 u2
    refine ⟨((0 : Int), (0 : Int), ([] : List Lab), ([] : List Ent), e), by simp, by simp, ?_, ?_⟩
    · refine Ev.bind u1 ?_
      simp only [if_neg he]
      exact Ev.now _
    · refine Ev.bind u2 ?_
      simp only [if_neg he]
      exact Ev.now _
theorem take_both (b : List Int) (hb : Byts b) (hs : b.length ≤ 1000000000) : SameT (fun k => record_Take.f k b) (fun k => manometerref13_Take.f k b) := by
  unfold record_Take.f manometerref13_Take.f
  by_cases h0 : (b.length : Int) = 0
  · simp only [if_pos h0]
    exact SameT.now _ (by simp) (by simp)
  have p0 : (0 : Int) < (b.length : Int) := by omega
  have p1 : (1 : Int) ≤ (b.length : Int) := by omega
  have hd : (b.drop 1).length = b.length - 1 := List.length_drop
  simp only [if_neg h0, if_pos p0]
  by_cases h1 : rd b 0 = 1
  · simp only [if_pos h1, if_pos p1]
    obtain ⟨q, hq1, hq2, f, g⟩ := series_both (b.drop 1) (byt_drop hb 1) (by omega)
    exact ⟨q, hq1, hq2, Ev.bind f (Ev.now _), Ev.bind g (Ev.now _)⟩
  by_cases h2 : rd b 0 = 2
  · simp only [if_neg h1, if_pos h2, if_pos p1]
    obtain ⟨u1, u2⟩ := Uvarint_ev (b.drop 1) (byt_drop hb 1) (by omega)
    have e : (fun k => (record_points.f k (b.drop 1)).bind fun bt160 => some (bt160.1, bt160.2.1, bt160.2.2.1, bt160.2.2.2.1, bt160.2.2.2.2)) = fun k => (recPoints k (b.drop 1)).bind fun bt160 => some (bt160.1, bt160.2.1, bt160.2.2.1, bt160.2.2.2.1, bt160.2.2.2.2) := rfl
    rw [e]
    have F : ∀ q, Ev (fun k => recPoints k (b.drop 1)) q → Ev (fun k => (recPoints k (b.drop 1)).bind fun bt160 => some (bt160.1, bt160.2.1, bt160.2.2.1, bt160.2.2.2.1, bt160.2.2.2.2)) q := fun q hq => Ev.bind hq (Ev.now _)
    rcases uget_cases (b.drop 1) (byt_drop hb 1) with ⟨n, h, hl, _, hn⟩ | ⟨er, he, h⟩
    · rw [h] at u1 u2
      obtain ⟨L, hL⟩ : ∃ L, L = (uv n).length := ⟨_, rfl⟩
      rw [← hL] at u1 u2 hl
      by_cases hg : (n : Int) > 256
      · refine ⟨((0 : Int), (0 : Int), ([] : List Lab), ([] : List Ent), (3 : Int)), by simp, by simp, F _ ?_, ?_⟩
        · unfold recPoints
          refine Ev.bind u1 ?_
          simp only [if_pos trivial, if_pos hg]
          exact Ev.now _
        · refine Ev.bind u2 ?_
          simp only [if_pos trivial, if_pos hg]
          exact Ev.now _
      by_cases hz : (n : Int) = 0
      · refine ⟨((0 : Int), (0 : Int), ([] : List Lab), ([] : List Ent), (1 : Int)), by simp, by simp, F _ ?_, ?_⟩
        · unfold recPoints
          refine Ev.bind u1 ?_
          simp only [if_pos trivial, if_neg hg, if_pos hz]
          exact Ev.now _
        · refine Ev.bind u2 ?_
          simp only [if_pos trivial, if_neg hg, if_pos hz]
          exact Ev.now _
      have c0 : (0 : Int) ≤ (n : Int) := by omega
      have hw : wrap64 (1 + (L : Int)) = ((1 + L : Nat) : Int) := wn (by omega) (by omega)
      have hwn : wrap64 (n : Int) = (n : Int) := wn rfl (by clear hw; omega)
      have c1 : (0 : Int) ≤ ((1 + L : Nat) : Int) := by clear hw hwn; omega
      have c2 : ((1 + L : Nat) : Int) ≤ (b.length : Int) := by clear hw hwn; omega
      have hdd : b.drop (1 + L) = (b.drop 1).drop L := List.drop_drop.symm
      have P : ∀ q, Ev (fun k => (recLoop k (b.drop 1) n (L : Int) 0 0 0 []).bind fun q => if q.1 = 0 then (if q.2.1 < ((b.drop 1).length : Int) then some ((0 : Int), (0 : Int), ([] : List Lab), ([] : List Ent), (8 : Int)) else some (2, 0, [], q.2.2, 0)) else some (0, 0, [], [], q.1)) q → Ev (fun k => recPoints k (b.drop 1)) q := by
        intro q hq
        unfold recPoints
        refine Ev.bind u1 ?_
        simp only [if_pos trivial, if_neg hg, if_neg hz, if_pos c0, Int.toNat_natCast]
        exact hq
      have G : ∀ q, Ev (fun k => manometerref13_Take.l0 k ((b.drop 1).drop L) (n : Int) 0 2 0 ([] : List Ent) 0 0 0 0) q → Ev (fun k => (manometerref01_Uvarint.f k (b.drop 1)).bind fun bt374 => (if bt374.2.2 = 0 then (if bt374.1 > 256 then (some (0, 0, ([] : List Lab), ([] : List Ent), 3)) else (if bt374.1 = 0 then (some (0, 0, ([] : List Lab), ([] : List Ent), 1)) else (if 0 ≤ (wrap64 (1 + bt374.2.1)) then (if (wrap64 (1 + bt374.2.1)) ≤ (b.length : Int) then (manometerref13_Take.l0 k (b.drop ((wrap64 (1 + bt374.2.1)) : Int).toNat) (wrap64 (bt374.1)) 0 2 0 ([] : List Ent) 0 0 0 0) else (none)) else (none)))) else (some (0, 0, ([] : List Lab), ([] : List Ent), bt374.2.2)))) q := by
        intro q hq
        refine Ev.bind u2 ?_
        simp only [if_pos trivial, if_neg hg, if_neg hz, hw, if_pos c1, if_pos c2, Int.toNat_natCast, hdd, hwn]
        exact hq
      have hL1 : L ≤ (b.drop 1).length := hl
      rcases loop_both (b.drop 1) (byt_drop hb 1) (by clear hw hwn; omega) n (by clear hw hwn; omega) n L 0 0 0 0 0 [] hL1 (by clear hw hwn; omega) rfl with ⟨er, he, f, g⟩ | ⟨a', out', ha', ho', f, g⟩
      · refine ⟨((0 : Int), (0 : Int), ([] : List Lab), ([] : List Ent), er), by simp, by simp, F _ (P _ ?_), G _ g⟩
        refine Ev.bind f ?_
        simp only [if_neg he]
        exact Ev.now _
      · by_cases hlt : a' < (b.drop 1).length
        · rw [if_pos hlt] at g
          refine ⟨_, by simp, by simp, F _ (P _ ?_), G _ g⟩
          refine Ev.bind f ?_
          simp only [if_pos trivial, if_pos (show (a' : Int) < ((b.drop 1).length : Int) by clear hw hwn; omega)]
          exact Ev.now _
        · rw [if_neg hlt] at g
          refine ⟨_, by simp, by show out'.length ≤ 1000; clear hw hwn; omega, F _ (P _ ?_), G _ g⟩
          refine Ev.bind f ?_
          simp only [if_pos trivial, if_neg (show ¬ (a' : Int) < ((b.drop 1).length : Int) by clear hw hwn; omega)]
          exact Ev.now _
    · rw [h] at u1 u2
      refine ⟨((0 : Int), (0 : Int), ([] : List Lab), ([] : List Ent), er), by simp, by simp, F _ ?_, ?_⟩
      · unfold recPoints
        refine Ev.bind u1 ?_
        simp only [if_neg he]
        exact Ev.now _
      · refine Ev.bind u2 ?_
        simp only [if_neg he]
        exact Ev.now _
  · simp only [if_neg h1, if_neg h2]
    exact SameT.now _ (by simp) (by simp)
theorem recordTakes (b : List Int) (hb : Byts b) : ∃ k, manometerlaw13_RecordTakes.f k b = some true := by
  refine Ev.rounds (g := fun k => manometerlaw13_RecordTakes.f k b) ?_
  unfold manometerlaw13_RecordTakes.f
  refine Ev.bind live_ev ?_
  simp only [if_true]
  refine Ev.step (f := _) (fun k => by simp only [manometerlaw13_RecordTakes.j0]; rfl) ?_
  by_cases h : (b.length : Int) > 6000
  · simp only [decide_eq_true h, if_true]
    exact Ev.bind live_ev (Ev.now _)
  · simp only [decide_eq_false h, Bool.false_eq_true, if_false]
    obtain ⟨⟨q0, q1, q2, q3, q4⟩, hq1, hq2, f, g⟩ := take_both b hb (by omega)
    have hq1 : q2.length ≤ 1000 := hq1
    have hq2 : q3.length ≤ 1000 := hq2
    refine Ev.bind f (Ev.bind g ?_)
    have s := (RSame_ev q0 q1 q0 q1 q2 q2 q3 q3 (by omega) (by omega)).2
    rw [sameR_refl] at s
    refine Ev.bind s ?_
    simp only [if_true, beq_self_eq_true]
    exact Ev.now _
end Go.Proofs.YtdckhaejhfkkbaaDoor.Pu
