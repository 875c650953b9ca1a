import Derived.Test.YtdckhaejhfkkbaaDoorCRecordBackRL
import Derived.Test.YtdckhaejhfkkbaaDoorCRecordBackRP
import Derived.Test.YtdckhaejhfkkbaaDoorCRecordBackPRTx6
import Derived.Test.YtdckhaejhfkkbaaDoorCRecordBackPRTx14
namespace Go.Proofs.YtdckhaejhfkkbaaDoor.Bq
end Go.Proofs.YtdckhaejhfkkbaaDoor.Bq
section
namespace Go.Proofs.YtdckhaejhfkkbaaDoor.Pu
open Go Go.RowKit Go.Proofs.YtdckhaejhfkkbaaDoor Go.Proofs.YtdckhaejhfkkbaaDoor.PRT Go.Proofs.YtdckhaejhfkkbaaDoorW.PrintWords Go.Proofs.YtdckhaejhfkkbaaDoorW.PrintLast Go.Proofs.YtdckhaejhfkkbaaDoorW.PrintMore Bq
set_option linter.unusedVariables false
set_option linter.unusedSimpArgs false
theorem nums_B (s : ByteArray) : strOfNums (ints (B s)) = s := B_inj (B_nums _)
theorem less_irrefl : ∀ x : Str, Op.bytesLess x x = false
  | [] => rfl
  | a :: x => by
    simp only [Op.bytesLess, less_irrefl x]
    have h : ¬ a < a := by rw [UInt8.lt_iff_toNat_lt]; omega
    simp [h]
theorem less_trans : ∀ {x y z : Str}, Op.bytesLess x y = true → Op.bytesLess y z = true → Op.bytesLess x z = true
  | _, [], _, h, _ => by cases h' : (‹Str›) <;> simp [Op.bytesLess] at h
  | x, b :: y, [], _, h => by simp [Op.bytesLess] at h
  | [], b :: y, c :: z, _, _ => rfl
  | a :: x, b :: y, c :: z, h1, h2 => by
    simp only [Op.bytesLess, Bool.or_eq_true, decide_eq_true_eq, Bool.and_eq_true, beq_iff_eq] at h1 h2 ⊢
    rcases h1 with h1 | ⟨rfl, h1⟩
    · rcases h2 with h2 | ⟨rfl, h2⟩
      · left
        rw [UInt8.lt_iff_toNat_lt] at h1 h2 ⊢
        omega
      · exact .inl h1
    · rcases h2 with h2 | ⟨rfl, h2⟩
      · exact .inl h2
      · exact .inr ⟨rfl, less_trans h1 h2⟩
theorem less_asymm {x y : Str} (h : Op.bytesLess x y = true) : Op.bytesLess y x = false := by
  rw [less_gt x y, h]
  rfl
theorem less_total {x y : Str} (h1 : Op.bytesLess x y = false) (h2 : Op.bytesLess y x = false) : x = y := by
  rw [less_gt x y, h1] at h2
  simpa using h2
abbrev lt (a b : ByteArray) : Prop := Op.bytesLess (B a) (B b) = true
abbrev Up (l : List Lab) : Prop := l.Pairwise (fun a b => lt a.f0 b.f0)
def RightP (l : List Lab) : Prop := (∀ x ∈ l, wrongB false x = 0) ∧ Up l
theorem nle (x q : Str) : (Op.bytesLess x q || decide (x = q)) = true ↔ ¬ Op.bytesLess q x = true := by
  constructor
  · intro h h'
    rw [Bool.or_eq_true] at h
    rcases h with h | h
    · rw [less_asymm h] at h'; cases h'
    · rw [of_decide_eq_true h, less_irrefl] at h'; cases h'
  · intro h
    by_cases h1 : Op.bytesLess x q = true
    · rw [h1]; rfl
    · have : x = q := less_total (by simpa using h1) (by simpa using h)
      simp [this]
theorem rgt_some : ∀ (l : List Lab) (q : Str), rgt (some q) l = 0 ↔ RightP l ∧ ∀ x ∈ l, Op.bytesLess q (B x.f0) = true
  | [], q => by simp [rgt, RightP]
  | x :: l, q => by
    unfold rgt
    by_cases hw : wrongB false x = 0
    · simp only [if_pos hw]
      by_cases hc : Op.bytesLess q (B x.f0) = true
      · have h1 : ¬ (Op.bytesLess (B x.f0) q || decide (B x.f0 = q)) = true := fun h => (nle _ _).1 h hc
        rw [if_neg h1, rgt_some l (B x.f0)]
        unfold RightP
        constructor
        · rintro ⟨⟨a, b⟩, c⟩
          refine ⟨⟨fun z hz => ?_, List.pairwise_cons.2 ⟨c, b⟩⟩, fun z hz => ?_⟩
          · rcases List.mem_cons.1 hz with rfl | hz
            · exact hw
            · exact a z hz
          · rcases List.mem_cons.1 hz with rfl | hz
            · exact hc
            · exact less_trans hc (c z hz)
        · rintro ⟨⟨a, b⟩, c⟩
          exact ⟨⟨fun z hz => a z (List.mem_cons_of_mem _ hz), (List.pairwise_cons.1 b).2⟩, (List.pairwise_cons.1 b).1⟩
      · rw [if_pos ((nle _ _).2 hc)]
        constructor
        · intro h; cases h
        · rintro ⟨_, c⟩
          exact absurd (c x List.mem_cons_self) hc
    · simp only [if_neg hw]
      constructor
      · intro h; exact absurd h hw
      · rintro ⟨⟨a, _⟩, _⟩
        exact absurd (a x List.mem_cons_self) hw
theorem rgt_none : ∀ (l : List Lab), rgt none l = 0 ↔ RightP l
  | [] => by simp [rgt, RightP]
  | x :: l => by
    unfold rgt
    by_cases hw : wrongB false x = 0
    · simp only [if_pos hw, Bool.false_eq_true, if_false]
      rw [rgt_some l (B x.f0)]
      unfold RightP
      constructor
      · rintro ⟨⟨a, b⟩, c⟩
        refine ⟨fun z hz => ?_, List.pairwise_cons.2 ⟨c, b⟩⟩
        rcases List.mem_cons.1 hz with rfl | hz
        · exact hw
        · exact a z hz
      · rintro ⟨a, b⟩
        exact ⟨⟨fun z hz => a z (List.mem_cons_of_mem _ hz), (List.pairwise_cons.1 b).2⟩, (List.pairwise_cons.1 b).1⟩
    · simp only [if_neg hw]
      constructor
      · intro h; exact absurd h hw
      · rintro ⟨a, _⟩
        exact absurd (a x List.mem_cons_self) hw
theorem right_zero (l : List Lab) : rightB l = 0 ↔ l.length ≤ 16 ∧ RightP l := by
  unfold rightB
  by_cases h : l.length ≤ 16
  · rw [if_pos h, rgt_none]
    exact ⟨fun h' => ⟨h, h'⟩, fun h' => h'.2⟩
  · rw [if_neg h]
    exact ⟨fun h1 => (by cases h1), fun h1 => absurd h1.1 h⟩
theorem byt_of (s : ByteArray) : Byts (bytesOf s) := fun x hx => by
  obtain ⟨b, hb, rfl⟩ := List.mem_map.1 hx
  have := b.toNat_lt
  exact ⟨by omega, by omega⟩
theorem of_nums {xs : List Int} (h : Byts xs) : bytesOf (strOfNums xs) = xs := by
  obtain ⟨l, rfl⟩ := byt_str h
  show ints (B (strOfNums (ints l))) = ints l
  rw [B_nums]
theorem nums_of (s : ByteArray) : strOfNums (bytesOf s) = s := nums_B s
theorem uget_sized (s : ByteArray) (rest : List Int) (hs : s.size < 18446744073709551616) : uget (sizedL s ++ rest) = ((s.size : Int), ((uv s.size).length : Int), 0) := by
  unfold sizedL
  rw [List.append_assoc]
  exact uget_uv s.size hs _
theorem took_sized (s : ByteArray) (rest : List Int) (most : Nat) (hs : s.size ≤ most) (hm : most ≤ 1000000) : tookL (sizedL s ++ rest) most = (s, rest, 0) := by
  have hu := uget_sized s rest (by omega)
  have hl : (sizedL s ++ rest).length = (uv s.size).length + s.size + rest.length := by
    unfold sizedL
    rw [List.length_append, List.length_append, Bq.ints_length, bytesOf_length]
  rw [took_num hu (by rw [hl]; omega), if_neg (by omega), hl, if_neg (by omega)]
  have e1 : (sizedL s ++ rest).drop (uv s.size).length = bytesOf s ++ rest := by
    unfold sizedL
    rw [List.append_assoc]
    have := List.drop_left (l₁ := Bq.ints (uv s.size)) (l₂ := bytesOf s ++ rest)
    rwa [Bq.ints_length] at this
  have e2 : (bytesOf s ++ rest).take s.size = bytesOf s := by
    have := List.take_left (l₁ := bytesOf s) (l₂ := rest)
    rwa [bytesOf_length] at this
  have e3 : (bytesOf s ++ rest).drop s.size = rest := by
    have := List.drop_left (l₁ := bytesOf s) (l₂ := rest)
    rwa [bytesOf_length] at this
  rw [← List.drop_drop, e1, e2, e3, nums_of]
theorem took_back (r : List Int) (hb : Byts r) (most : Nat) (h : (tookL r most).2.2 = 0) : r = sizedL (tookL r most).1 ++ (tookL r most).2.1 := by
  rcases uget_cases r hb with ⟨n, hu, hk, hp, hn⟩ | ⟨e, he, hu⟩
  · rw [took_num hu hk] at h ⊢
    split at h
    · exact absurd h (by decide)
    · rename_i h1
      rw [if_neg h1]
      split at h
      · exact absurd h (by decide)
      · rename_i h2
        rw [if_neg h2]
        show r = sizedL (strOfNums ((r.drop (uv n).length).take n)) ++ r.drop ((uv n).length + n)
        have hbt : Byts ((r.drop (uv n).length).take n) := byt_take (byt_drop hb _) _
        have hsz : (strOfNums ((r.drop (uv n).length).take n)).size = n := by
          rw [nums_size hbt, List.length_take, List.length_drop]
          omega
        unfold sizedL
        rw [hsz, of_nums hbt, hp, List.append_assoc, ← List.drop_drop, List.take_append_drop, List.take_append_drop]
  · rw [took_err he hu] at h
    exact absurd h he
def Sh (l : List Lab) : Prop := ∀ x ∈ l, x.f0.size ≤ 64 ∧ x.f1.size ≤ 128
theorem takes_put : ∀ (l : List Lab) (rest : List Int) (acc : List Lab), Sh l → takesL l.length (l.flatMap labL ++ rest) acc = (acc ++ l, rest, 0)
  | [], rest, acc, _ => by simp [takesL]
  | x :: l, rest, acc, h => by
    obtain ⟨h0, h1⟩ := h x (by simp)
    have e : (x :: l).flatMap labL ++ rest = sizedL x.f0 ++ (sizedL x.f1 ++ (l.flatMap labL ++ rest)) := by
      rw [List.flatMap_cons]
      unfold labL
      simp only [List.append_assoc]
    rw [e, List.length_cons]
    unfold takesL
    rw [took_sized x.f0 _ 64 h0 (by omega)]
    simp only [if_true]
    rw [took_sized x.f1 _ 128 h1 (by omega)]
    simp only [if_true]
    rw [takes_put l rest _ (fun y hy => h y (by simp [hy])), List.append_assoc]
    rfl
theorem right_short {l : List Lab} (h : rightB l = 0) : l.length ≤ 16 ∧ Sh l := by
  obtain ⟨h1, h2, _⟩ := (right_zero l).1 h
  refine ⟨h1, fun x hx => ?_⟩
  have h3 := h2 x hx
  unfold wrongB at h3
  split at h3
  · rename_i hn
    split at h3
    · rename_i hv
      have h4 := (namedB_letters hn).2.1
      unfold valuedB at hv
      simp only [Bool.and_eq_true, decide_eq_true_eq] at hv
      rw [B_length] at h4 hv
      exact ⟨h4, hv.1⟩
    · exact absurd h3 (by decide)
  · exact absurd h3 (by decide)
theorem take_put (l : List Lab) (rest : List Int) (h : rightB l = 0) : takeB (putL l ++ rest) = (l, ((putL l).length : Int), 0) := by
  obtain ⟨h1, h2⟩ := right_short h
  have hu : uget (putL l ++ rest) = ((l.length : Int), ((uv l.length).length : Int), 0) := by
    unfold putL
    rw [List.append_assoc]
    exact uget_uv _ (by omega) _
  have e : (putL l ++ rest).drop (uv l.length).length = l.flatMap labL ++ rest := by
    unfold putL
    rw [List.append_assoc]
    have := List.drop_left (l₁ := Bq.ints (uv l.length)) (l₂ := l.flatMap labL ++ rest)
    rwa [Bq.ints_length] at this
  unfold takeB
  rw [hu]
  simp only [if_true, if_neg (show ¬ (l.length : Int) > 16 by omega), Int.toNat_natCast]
  rw [e, takes_put l rest [] h2]
  unfold takeEnd
  simp only [if_true, List.nil_append, h]
  rw [List.length_append, Nat.add_sub_cancel]
theorem takes_back : ∀ (d : Nat) (r : List Int) (acc : List Lab), Byts r → (takesL d r acc).2.2 = 0 → ∃ ls : List Lab, ls.length = d ∧ (takesL d r acc).1 = acc ++ ls ∧ r = ls.flatMap labL ++ (takesL d r acc).2.1
  | 0, r, acc, _, _ => ⟨[], rfl, by simp [takesL], by simp [takesL]⟩
  | d + 1, r, acc, hb, h => by
    obtain ⟨t1, t2, t3⟩ := took_ok r hb 64
    unfold takesL at h ⊢
    by_cases h1 : (tookL r 64).2.2 = 0
    · rw [if_pos h1] at h ⊢
      have b1 := took_back r hb 64 h1
      generalize tookL r 64 = y at *
      obtain ⟨v1, v2, v3⟩ := took_ok y.2.1 t2 128
      by_cases h2 : (tookL y.2.1 128).2.2 = 0
      · rw [if_pos h2] at h ⊢
        have b2 := took_back y.2.1 t2 128 h2
        generalize tookL y.2.1 128 = z at *
        obtain ⟨ls, l1, l2, l3⟩ := takes_back d z.2.1 (acc ++ [⟨y.1, z.1⟩]) v2 h
        refine ⟨⟨y.1, z.1⟩ :: ls, by rw [List.length_cons, l1], by rw [l2, List.append_assoc]; rfl, ?_⟩
        rw [List.flatMap_cons]
        show r = (sizedL y.1 ++ sizedL z.1) ++ ls.flatMap labL ++ _
        rw [List.append_assoc, List.append_assoc, ← l3, ← b2, ← b1]
      · rw [if_neg h2] at h
        exact absurd h h2
    · rw [if_neg h1] at h
      exact absurd h h1
theorem take_back (b : List Int) (hb : Byts b) (h : (takeB b).2.2 = 0) : ∃ n : Nat, (takeB b).2.1 = (n : Int) ∧ n ≤ b.length ∧ putB (takeB b).1 = (b.take n, 0) := by
  rcases uget_cases b hb with ⟨n, hu, hk, hp, hn⟩ | ⟨e, he, hu⟩
  · unfold takeB at h ⊢
    rw [hu] at h ⊢
    simp only [if_true, Int.toNat_natCast] at h ⊢
    by_cases h16 : (n : Int) > 16
    · rw [if_pos h16] at h
      exact absurd h (by decide)
    · rw [if_neg h16] at h ⊢
      obtain ⟨z, hz⟩ : ∃ z, z = takesL n (b.drop (uv n).length) [] := ⟨_, rfl⟩
      rw [← hz] at h ⊢
      unfold takeEnd at h ⊢
      by_cases h1 : z.2.2 = 0
      · rw [if_pos h1] at h ⊢
        by_cases h2 : rightB z.1 = 0
        · rw [if_pos h2]
          obtain ⟨ls, l1, l2, l3⟩ := takes_back n (b.drop (uv n).length) [] (byt_drop hb _) (by rw [← hz]; exact h1)
          rw [← hz, List.nil_append] at l2
          rw [← hz] at l3
          have hbe : b = putL z.1 ++ z.2.1 := by
            unfold putL
            rw [l2, l1, hp, List.append_assoc, ← l3, List.take_append_drop]
          have hlen : b.length = (putL z.1).length + z.2.1.length := by rw [← List.length_append, ← hbe]
          refine ⟨b.length - z.2.1.length, rfl, by omega, ?_⟩
          unfold putB
          rw [if_pos h2, show b.length - z.2.1.length = (putL z.1).length by omega]
          have e : b.take (putL z.1).length = putL z.1 := by
            conv => lhs; rw [hbe]
            exact List.take_left
          rw [e]
        · rw [if_neg h2] at h
          exact absurd h h2
      · rw [if_neg h1] at h
        exact absurd h h1
  · unfold takeB at h
    rw [hu] at h
    simp only [if_neg he] at h
    exact absurd h he
theorem took_cut (s : ByteArray) (rest : List Int) (most c : Nat) (hs : s.size ≤ most) (hm : most ≤ 1000000) (hc : c < (sizedL s).length) : (tookL ((sizedL s ++ rest).take c) most).2.2 = 6 := by
  have hsl : (sizedL s).length = (uv s.size).length + s.size := by
    unfold sizedL
    rw [List.length_append, Bq.ints_length, bytesOf_length]
  rw [List.take_append_of_le_length (by omega)]
  have hb : Byts ((sizedL s).take c) := byt_take (by unfold sizedL; exact byt_app (byt_uv _) (byt_of _)) c
  by_cases h : c < (uv s.size).length
  · have e : (sizedL s).take c = (Bq.ints (uv s.size)).take c := by
      unfold sizedL
      rw [List.take_append_of_le_length (by rw [Bq.ints_length]; omega)]
    have h6 := uget_cut s.size (by omega) c h
    rw [e] at hb ⊢
    rcases uget_cases _ hb with ⟨n, hu, _⟩ | ⟨e', he, hu⟩
    · rw [hu] at h6
      exact absurd (show (0 : Int) = 6 from h6) (by decide)
    · rw [hu] at h6
      rw [took_err he hu]
      exact h6
  · have e : (sizedL s).take c = Bq.ints (uv s.size) ++ (bytesOf s).take (c - (uv s.size).length) := by
      unfold sizedL
      rw [List.take_append, List.take_of_length_le (by rw [Bq.ints_length]; omega), Bq.ints_length]
    have hu : uget ((sizedL s).take c) = ((s.size : Int), ((uv s.size).length : Int), 0) := by
      rw [e]
      exact uget_uv s.size (by omega) _
    have hl : ((sizedL s).take c).length = c := by rw [List.length_take]; omega
    rw [took_num hu (by rw [hl]; omega), if_neg (by omega), hl, if_pos (by omega)]
theorem takes_cut : ∀ (l : List Lab) (acc : List Lab) (c : Nat), Sh l → c < (l.flatMap labL).length → (takesL l.length ((l.flatMap labL).take c) acc).2.2 = 6
  | [], acc, c, _, hc => by simp at hc
  | x :: l, acc, c, h, hc => by
    obtain ⟨h0, h1⟩ := h x (by simp)
    rw [List.flatMap_cons, List.length_append] at hc
    have hll : (labL x).length = (sizedL x.f0).length + (sizedL x.f1).length := by unfold labL; rw [List.length_append]
    have e : (x :: l).flatMap labL = sizedL x.f0 ++ (sizedL x.f1 ++ l.flatMap labL) := by
      rw [List.flatMap_cons]
      unfold labL
      simp only [List.append_assoc]
    rw [e, List.length_cons]
    unfold takesL
    by_cases hc0 : c < (sizedL x.f0).length
    · have h6 := took_cut x.f0 (sizedL x.f1 ++ l.flatMap labL) 64 c h0 (by omega) hc0
      rw [if_neg (by rw [h6]; decide)]
      exact h6
    · have e1 : (sizedL x.f0 ++ (sizedL x.f1 ++ l.flatMap labL)).take c = sizedL x.f0 ++ (sizedL x.f1 ++ l.flatMap labL).take (c - (sizedL x.f0).length) := by
        rw [List.take_append, List.take_of_length_le (by omega)]
      rw [e1, took_sized x.f0 _ 64 h0 (by omega)]
      simp only [if_true]
      by_cases hc1 : c - (sizedL x.f0).length < (sizedL x.f1).length
      · have h6 := took_cut x.f1 (l.flatMap labL) 128 _ h1 (by omega) hc1
        rw [if_neg (by rw [h6]; decide)]
        exact h6
      · have e2 : (sizedL x.f1 ++ l.flatMap labL).take (c - (sizedL x.f0).length) = sizedL x.f1 ++ (l.flatMap labL).take (c - (sizedL x.f0).length - (sizedL x.f1).length) := by
          rw [List.take_append, List.take_of_length_le (by omega)]
        rw [e2, took_sized x.f1 _ 128 h1 (by omega)]
        simp only [if_true]
        exact takes_cut l _ _ (fun y hy => h y (by simp [hy])) (by omega)
theorem take_cut (l : List Lab) (c : Nat) (h : rightB l = 0) (hc : c < (putL l).length) : (takeB ((putL l).take c)).2.2 = 6 := by
  obtain ⟨h1, h2⟩ := right_short h
  have hpl : (putL l).length = (uv l.length).length + (l.flatMap labL).length := by unfold putL; rw [List.length_append, Bq.ints_length]
  by_cases hc0 : c < (uv l.length).length
  · have e : (putL l).take c = (Bq.ints (uv l.length)).take c := by
      unfold putL
      rw [List.take_append_of_le_length (by rw [Bq.ints_length]; omega)]
    have h6 := uget_cut l.length (by omega) c hc0
    have hb : Byts ((Bq.ints (uv l.length)).take c) := byt_take (byt_uv _) c
    rw [e]
    unfold takeB
    rcases uget_cases _ hb with ⟨n, hu, _⟩ | ⟨e', he, hu⟩
    · rw [hu] at h6
      exact absurd (show (0 : Int) = 6 from h6) (by decide)
    · rw [hu] at h6 ⊢
      rw [if_neg he]
      exact h6
  · have e : (putL l).take c = Bq.ints (uv l.length) ++ (l.flatMap labL).take (c - (uv l.length).length) := by
      unfold putL
      rw [List.take_append, List.take_of_length_le (by rw [Bq.ints_length]; omega), Bq.ints_length]
    have hu : uget ((putL l).take c) = ((l.length : Int), ((uv l.length).length : Int), 0) := by
      rw [e]
      exact uget_uv _ (by omega) _
    have e2 : ((putL l).take c).drop (uv l.length).length = (l.flatMap labL).take (c - (uv l.length).length) := by
      rw [e]
      have := List.drop_left (l₁ := Bq.ints (uv l.length)) (l₂ := (l.flatMap labL).take (c - (uv l.length).length))
      rwa [Bq.ints_length] at this
    unfold takeB
    rw [hu]
    simp only [if_true, if_neg (show ¬ (l.length : Int) > 16 by omega), Int.toNat_natCast]
    rw [e2]
    have h6 := takes_cut l [] _ h2 (show c - (uv l.length).length < (l.flatMap labL).length by omega)
    unfold takeEnd
    rw [if_neg (by rw [h6]; decide)]
    exact h6
theorem byt_sized (s : ByteArray) : Byts (sizedL s) := by unfold sizedL; exact byt_app (byt_uv _) (byt_of _)
theorem byt_labs : ∀ l : List Lab, Byts (l.flatMap labL)
  | [] => by simpa using byt_nil
  | x :: l => by
    rw [List.flatMap_cons]
    exact byt_app (by unfold labL; exact byt_app (byt_sized _) (byt_sized _)) (byt_labs l)
theorem byt_putL (l : List Lab) : Byts (putL l) := by unfold putL; exact byt_app (byt_uv _) (byt_labs l)
end Go.Proofs.YtdckhaejhfkkbaaDoor.Pu
end
section
namespace Go.Proofs.YtdckhaejhfkkbaaDoor.Pu
open Go Go.RowKit Go.Proofs.YtdckhaejhfkkbaaDoor Go.Proofs.YtdckhaejhfkkbaaDoor.PRT Go.Proofs.YtdckhaejhfkkbaaDoorW.PrintWords Go.Proofs.YtdckhaejhfkkbaaDoorW.PrintLast Go.Proofs.YtdckhaejhfkkbaaDoorW.PrintMore Bq
set_option linter.unusedVariables false
set_option linter.unusedSimpArgs false
theorem varG_vI (n : Int) (h0 : -9223372036854775808 ≤ n) (h1 : n ≤ 9223372036854775807) (rest : List Int) : varG (vI n ++ rest) = (n, ((vI n).length : Int), 0) := by
  have hz := zigI_bd n h0 h1
  obtain ⟨z, hz2⟩ := Int.eq_ofNat_of_zero_le hz.1
  have e := zag_zig n
  unfold varG vI
  rw [hz2] at e ⊢
  rw [Int.toNat_natCast, uget_uv z (by omega) rest, Bq.ints_length]
  show (zagI (z : Int), _, _) = _
  rw [e]
theorem varG_cut (n : Int) (h0 : -9223372036854775808 ≤ n) (h1 : n ≤ 9223372036854775807) (i : Nat) (hi : i < (vI n).length) : (varG ((vI n).take i)).2.2 = 6 := by
  have hz := zigI_bd n h0 h1
  obtain ⟨z, hz2⟩ := Int.eq_ofNat_of_zero_le hz.1
  unfold vI at hi ⊢
  rw [hz2, Int.toNat_natCast] at hi ⊢
  rw [Bq.ints_length] at hi
  exact uget_cut z (by omega) i hi
theorem zagI_bd (n : Nat) (h : n < 18446744073709551616) : -9223372036854775808 ≤ zagI n ∧ zagI n ≤ 9223372036854775807 := by unfold zagI; split <;> omega
theorem varG_back (xs : List Int) (hb : Byts xs) (he : (varG xs).2.2 = 0) : ∃ (v : Int) (n : Nat), varG xs = (v, (n : Int), 0) ∧ n ≤ xs.length ∧ vI v = xs.take n ∧ -9223372036854775808 ≤ v ∧ v ≤ 9223372036854775807 := by
  rcases uget_cases xs hb with ⟨n, h, hl, ht, hn⟩ | ⟨e, hne, h⟩
  · have hbd := zagI_bd n hn
    refine ⟨zagI n, (uv n).length, by unfold varG; rw [h], hl, ?_, hbd.1, hbd.2⟩
    unfold vI
    rw [zig_zag (n : Int) (by omega), Int.toNat_natCast]
    exact ht
  · unfold varG at he
    rw [h] at he
    exact absurd he hne
def pt4 (rf tt sq : Int) (xs : List Int) : Int × List Int × Ent := if xs.length < 8 then (6, [], z45) else (0, xs.drop 8, ⟨rf % 4294967296, ⟨tt, (xs.take 8).foldl v8 0, sq⟩⟩)
def pt3 (rf tt s : Int) (xs : List Int) : Int × List Int × Ent :=
  if (varG xs).2.2 = 0 then (if seqN s (varG xs).1 = 0 then (1, [], z45) else pt4 rf tt (seqN s (varG xs).1) (xs.drop (varG xs).2.1.toNat)) else ((varG xs).2.2, [], z45)
def pt2 (rf t s : Int) (xs : List Int) : Int × List Int × Ent :=
  if (varG xs).2.2 = 0 then pt3 rf (wrap64 (t + (varG xs).1)) s (xs.drop (varG xs).2.1.toNat) else ((varG xs).2.2, [], z45)
def ptG (xs : List Int) (r t s : Int) : Int × List Int × Ent :=
  if (varG xs).2.2 = 0 then (if refN r (varG xs).1 = 0 ∨ refN r (varG xs).1 > 4294967295 then (1, [], z45) else pt2 (refN r (varG xs).1) t s (xs.drop (varG xs).2.1.toNat)) else ((varG xs).2.2, [], z45)
def Wp (x : Ent) : Prop := (0 < x.f0 ∧ x.f0 < 4294967296) ∧ (-9223372036854775808 ≤ x.f1.f0 ∧ x.f1.f0 ≤ 9223372036854775807) ∧ (0 ≤ x.f1.f1 ∧ x.f1.f1 < 18446744073709551616) ∧ (0 < x.f1.f2 ∧ x.f1.f2 < 18446744073709551616)
def Wa (r t s : Int) : Prop := (0 ≤ r ∧ r < 4294967296) ∧ (-9223372036854775808 ≤ t ∧ t ≤ 9223372036854775807) ∧ (0 ≤ s ∧ s < 18446744073709551616)
theorem Wp.a {x : Ent} (h : Wp x) : Wa x.f0 x.f1.f0 x.f1.f2 := ⟨⟨by have := h.1; omega, h.1.2⟩, h.2.1, ⟨by have := h.2.2.2; omega, h.2.2.2.2⟩⟩
theorem ref_back (r f : Int) (hr : 0 ≤ r ∧ r < 4294967296) (hf : 0 < f ∧ f < 4294967296) : refN r (wrap64 (wrap64 f - wrap64 r)) = f := by
  unfold refN
  simp only [IntKind.wrap_u64]
  unfold wrap64
  omega
theorem t_back (t f : Int) (ht : -9223372036854775808 ≤ t ∧ t ≤ 9223372036854775807) (hf : -9223372036854775808 ≤ f ∧ f ≤ 9223372036854775807) : wrap64 (t + wrap64 (f - t)) = f := by
  unfold wrap64
  omega
theorem s_back (s f : Int) (hs : 0 ≤ s ∧ s < 18446744073709551616) (hf : 0 < f ∧ f < 18446744073709551616) : seqN s (wrap64 (IntKind.u64.wrap (f - s))) = f := by
  unfold seqN
  simp only [IntKind.wrap_u64]
  unfold wrap64
  omega
theorem fold_be8 (v : Nat) (hv : v < 18446744073709551616) : (be8 (v : Int)).foldl v8 0 = (v : Int) := by
  rw [fold_bnum _ (byt_be8 _) (by rw [be8_length]; omega), be8_length]
  have e : bitsOf (be8 (v : Int)) (8 * 8) = nb v 64 := by
    rw [← be8_pack]
    have := bitsOf_pack (nb v 64)
    rw [nb_length] at this
    exact this
  rw [e, bnum_nb]
  congr 1
  exact Nat.mod_eq_of_lt hv
theorem pt_put (x : Ent) (hx : Wp x) (r t s : Int) (ha : Wa r t s) (rest : List Int) : ptG (ptL r t s x ++ rest) r t s = (0, rest, x) := by
  have b1 := w64_bd (wrap64 x.f0 - wrap64 r)
  have b2 := w64_bd (x.f1.f0 - t)
  have b3 := w64_bd (IntKind.u64.wrap (x.f1.f2 - s))
  have r1 := ref_back r x.f0 ha.1 hx.1
  have r2 := t_back t x.f1.f0 ha.2.1 hx.2.1
  have r3 := s_back s x.f1.f2 ha.2.2 hx.2.2.2
  unfold ptL
  generalize wrap64 (wrap64 x.f0 - wrap64 r) = n1 at *
  generalize wrap64 (x.f1.f0 - t) = n2 at *
  generalize wrap64 (IntKind.u64.wrap (x.f1.f2 - s)) = n3 at *
  have e : vI n1 ++ vI n2 ++ vI n3 ++ be8 x.f1.f1 ++ rest = vI n1 ++ (vI n2 ++ (vI n3 ++ (be8 x.f1.f1 ++ rest))) := by simp only [List.append_assoc]
  rw [e]
  unfold ptG
  rw [varG_vI n1 b1.1 b1.2]
  simp only [if_true, if_pos trivial, r1, Int.toNat_natCast, List.drop_left]
  have hx1 := hx.1
  rw [if_neg (by omega)]
  unfold pt2
  rw [varG_vI n2 b2.1 b2.2]
  simp only [if_true, if_pos trivial, r2, Int.toNat_natCast, List.drop_left]
  unfold pt3
  rw [varG_vI n3 b3.1 b3.2]
  simp only [if_true, if_pos trivial, r3, Int.toNat_natCast, List.drop_left]
  have hx4 := hx.2.2.2
  rw [if_neg (by omega)]
  unfold pt4
  have h8 := be8_length x.f1.f1
  rw [if_neg (by rw [List.length_append]; omega)]
  have hd : (be8 x.f1.f1 ++ rest).drop 8 = rest := by rw [List.drop_append_of_le_length (by omega), List.drop_of_length_le (by omega), List.nil_append]
  have ht : (be8 x.f1.f1 ++ rest).take 8 = be8 x.f1.f1 := by rw [List.take_append_of_le_length (by omega), List.take_of_length_le (by omega)]
  rw [hd, ht]
  obtain ⟨v, hv⟩ := Int.eq_ofNat_of_zero_le hx.2.2.1.1
  have hvl := hx.2.2.1.2
  have hf : (be8 x.f1.f1).foldl v8 0 = x.f1.f1 := by rw [hv]; exact fold_be8 v (by omega)
  have hm : x.f0 % 4294967296 = x.f0 := by omega
  rw [hf, hm]
theorem cut_app {A B : List Int} (i : Nat) : (i < A.length ∧ (A ++ B).take i = A.take i) ∨ (A.length ≤ i ∧ (A ++ B).take i = A ++ B.take (i - A.length)) := by
  by_cases h : i < A.length
  · exact .inl ⟨h, List.take_append_of_le_length (by omega)⟩
  · refine .inr ⟨by omega, ?_⟩
    rw [List.take_append, List.take_of_length_le (by omega)]
theorem pt_cut (x : Ent) (hx : Wp x) (r t s : Int) (ha : Wa r t s) (i : Nat) (hi : i < (ptL r t s x).length) : (ptG ((ptL r t s x).take i) r t s).1 = 6 := by
  have b1 := w64_bd (wrap64 x.f0 - wrap64 r)
  have b2 := w64_bd (x.f1.f0 - t)
  have b3 := w64_bd (IntKind.u64.wrap (x.f1.f2 - s))
  have r1 := ref_back r x.f0 ha.1 hx.1
  have r2 := t_back t x.f1.f0 ha.2.1 hx.2.1
  have r3 := s_back s x.f1.f2 ha.2.2 hx.2.2.2
  unfold ptL at hi ⊢
  generalize wrap64 (wrap64 x.f0 - wrap64 r) = n1 at *
  generalize wrap64 (x.f1.f0 - t) = n2 at *
  generalize wrap64 (IntKind.u64.wrap (x.f1.f2 - s)) = n3 at *
  have e : vI n1 ++ vI n2 ++ vI n3 ++ be8 x.f1.f1 = vI n1 ++ (vI n2 ++ (vI n3 ++ be8 x.f1.f1)) := by simp only [List.append_assoc]
  rw [e] at hi ⊢
  rw [List.length_append, List.length_append, List.length_append, be8_length] at hi
  have h60 : ¬ (6 : Int) = 0 := by decide
  have hx1 := hx.1
  have hx4 := hx.2.2.2
  unfold ptG
  rcases cut_app (A := vI n1) (B := vI n2 ++ (vI n3 ++ be8 x.f1.f1)) i with ⟨h1, e1⟩ | ⟨h1, e1⟩
  · rw [e1, varG_cut n1 b1.1 b1.2 i h1, if_neg h60]
  · rw [e1, varG_vI n1 b1.1 b1.2]
    simp only [if_true, if_pos trivial, r1, Int.toNat_natCast, List.drop_left]
    rw [if_neg (by omega)]
    unfold pt2
    rcases cut_app (A := vI n2) (B := vI n3 ++ be8 x.f1.f1) (i - (vI n1).length) with ⟨h2, e2⟩ | ⟨h2, e2⟩
    · rw [e2, varG_cut n2 b2.1 b2.2 _ h2, if_neg h60]
    · rw [e2, varG_vI n2 b2.1 b2.2]
      simp only [if_true, if_pos trivial, r2, Int.toNat_natCast, List.drop_left]
      unfold pt3
      rcases cut_app (A := vI n3) (B := be8 x.f1.f1) (i - (vI n1).length - (vI n2).length) with ⟨h3, e3⟩ | ⟨h3, e3⟩
      · rw [e3, varG_cut n3 b3.1 b3.2 _ h3, if_neg h60]
      · rw [e3, varG_vI n3 b3.1 b3.2]
        simp only [if_true, if_pos trivial, r3, Int.toNat_natCast, List.drop_left]
        rw [if_neg (by omega)]
        unfold pt4
        rw [if_pos (by rw [List.length_take, be8_length]; omega)]
theorem ref_fwd (r v : Int) (hr : 0 ≤ r ∧ r < 4294967296) (hv : -9223372036854775808 ≤ v ∧ v ≤ 9223372036854775807) (hg : ¬ refN r v > 4294967295) : wrap64 (wrap64 (refN r v % 4294967296) - wrap64 r) = v := by
  unfold refN at *
  simp only [IntKind.wrap_u64] at *
  unfold wrap64
  omega
theorem t_fwd (t v : Int) (ht : -9223372036854775808 ≤ t ∧ t ≤ 9223372036854775807) (hv : -9223372036854775808 ≤ v ∧ v ≤ 9223372036854775807) : wrap64 (wrap64 (t + v) - t) = v := by
  unfold wrap64
  omega
theorem s_fwd (s v : Int) (hs : 0 ≤ s ∧ s < 18446744073709551616) (hv : -9223372036854775808 ≤ v ∧ v ≤ 9223372036854775807) : wrap64 (IntKind.u64.wrap (seqN s v - s)) = v := by
  unfold seqN
  simp only [IntKind.wrap_u64]
  unfold wrap64
  omega
theorem seqN_bd (s v : Int) : 0 ≤ seqN s v ∧ seqN s v < 18446744073709551616 := by unfold seqN; rw [IntKind.wrap_u64]; omega
theorem refN_bd2 (r v : Int) : 0 ≤ refN r v := by unfold refN; rw [IntKind.wrap_u64]; omega
theorem be8_fold (xs : List Int) (hb : Byts xs) (h8 : xs.length = 8) : ∃ v : Nat, xs.foldl v8 0 = (v : Int) ∧ v < 18446744073709551616 ∧ be8 (v : Int) = xs := by
  refine ⟨bnum (bitsOf xs (8 * xs.length)), fold_bnum xs hb (by omega), ?_, ?_⟩
  · have h9 := bnum_lt (bitsOf xs (8 * xs.length))
    rw [bitsOf_length] at h9
    have e9 : (2 : Nat) ^ (8 * xs.length) = 18446744073709551616 := by rw [h8]
    omega
  · rw [← be8_pack]
    have e : nb (bnum (bitsOf xs (8 * xs.length))) 64 = bitsOf xs (8 * xs.length) := by
      have := nb_bnum (bitsOf xs (8 * xs.length))
      rw [bitsOf_length, h8] at this
      rw [h8]
      exact this
    rw [e]
    have hpl : (packI (bitsOf xs (8 * xs.length))).length = 8 := by rw [packL_length, bitsOf_length]; omega
    apply bits_ext
    · rw [hpl, h8]
    · exact byts_packI _
    · exact hb
    · intro i hi
      rw [hpl] at hi
      rw [bitAt_pack (bitsOf xs (8 * xs.length)).length _ i (Nat.le_refl _) (by rw [bitsOf_length]; omega), List.getD_eq_getElem?_getD, List.getElem?_eq_getElem (by rw [bitsOf_length]; omega), bitsOf_get _ _ _ (by omega)]
      rfl
theorem pt_back (xs : List Int) (hb : Byts xs) (r t s : Int) (ha : Wa r t s) (he : (ptG xs r t s).1 = 0) : Wp (ptG xs r t s).2.2 ∧ Byts (ptG xs r t s).2.1 ∧ xs = ptL r t s (ptG xs r t s).2.2 ++ (ptG xs r t s).2.1 := by
  unfold ptG at he ⊢
  have h10 : ¬ (1 : Int) = 0 := by decide
  have h60 : ¬ (6 : Int) = 0 := by decide
  by_cases c1 : (varG xs).2.2 = 0
  · rw [if_pos c1] at he ⊢
    obtain ⟨v1, n1, g1, l1, k1, i1⟩ := varG_back xs hb c1
    rw [g1] at he ⊢
    simp only [Int.toNat_natCast] at he ⊢
    by_cases d1 : refN r v1 = 0 ∨ refN r v1 > 4294967295
    · rw [if_pos d1] at he
      exact absurd he h10
    · rw [if_neg d1] at he ⊢
      unfold pt2 at he ⊢
      by_cases c2 : (varG (xs.drop n1)).2.2 = 0
      · rw [if_pos c2] at he ⊢
        obtain ⟨v2, n2, g2, l2, k2, i2⟩ := varG_back (xs.drop n1) (byt_drop hb n1) c2
        rw [g2] at he ⊢
        simp only [Int.toNat_natCast] at he ⊢
        unfold pt3 at he ⊢
        by_cases c3 : (varG ((xs.drop n1).drop n2)).2.2 = 0
        · rw [if_pos c3] at he ⊢
          obtain ⟨v3, n3, g3, l3, k3, i3⟩ := varG_back ((xs.drop n1).drop n2) (byt_drop (byt_drop hb n1) n2) c3
          rw [g3] at he ⊢
          simp only [Int.toNat_natCast] at he ⊢
          by_cases d3 : seqN s v3 = 0
          · rw [if_pos d3] at he
            exact absurd he h10
          · rw [if_neg d3] at he ⊢
            unfold pt4 at he ⊢
            by_cases c4 : (((xs.drop n1).drop n2).drop n3).length < 8
            · rw [if_pos c4] at he
              exact absurd he h60
            · rw [if_neg c4]
              have hb3 : Byts (((xs.drop n1).drop n2).drop n3) := byt_drop (byt_drop (byt_drop hb n1) n2) n3
              obtain ⟨v, hv1, hv2, hv3⟩ := be8_fold ((((xs.drop n1).drop n2).drop n3).take 8) (byt_take hb3 8) (by rw [List.length_take]; omega)
              have hsb := seqN_bd s v3
              have hrb := refN_bd2 r v1
              have hg : ¬ refN r v1 > 4294967295 := fun h => d1 (.inr h)
              have hz : ¬ refN r v1 = 0 := fun h => d1 (.inl h)
              refine ⟨⟨⟨?_, ?_⟩, w64_bd _, ⟨?_, ?_⟩, ⟨?_, hsb.2⟩⟩, byt_drop hb3 8, ?_⟩
              · show 0 < refN r v1 % 4294967296
                omega
              · show refN r v1 % 4294967296 < 4294967296
                omega
              · show 0 ≤ List.foldl v8 0 _
                rw [hv1]
                exact Int.natCast_nonneg _
              · show List.foldl v8 0 _ < 18446744073709551616
                rw [hv1]
                omega
              · show 0 < seqN s v3
                omega
              · show xs = vI (wrap64 (wrap64 (refN r v1 % 4294967296) - wrap64 r)) ++ vI (wrap64 (wrap64 (t + v2) - t)) ++ vI (wrap64 (IntKind.u64.wrap (seqN s v3 - s))) ++ be8 (List.foldl v8 0 _) ++ List.drop 8 _
                rw [ref_fwd r v1 ha.1 i1 hg, t_fwd t v2 ha.2.1 i2, s_fwd s v3 ha.2.2 i3, hv1, hv3, k1, k2, k3]
                simp only [List.append_assoc, List.take_append_drop]
        · rw [if_neg c3] at he
          exact absurd he c3
      · rw [if_neg c2] at he
        exact absurd he c2
  · rw [if_neg c1] at he
    exact absurd he c1
end Go.Proofs.YtdckhaejhfkkbaaDoor.Pu
end
section
namespace Go.Proofs.YtdckhaejhfkkbaaDoor.Pu
open Go Go.RowKit Go.Proofs.YtdckhaejhfkkbaaDoor Go.Proofs.YtdckhaejhfkkbaaDoor.PRT Go.Proofs.YtdckhaejhfkkbaaDoorW.PrintWords Go.Proofs.YtdckhaejhfkkbaaDoorW.PrintLast Go.Proofs.YtdckhaejhfkkbaaDoorW.PrintMore Bq
set_option linter.unusedVariables false
set_option linter.unusedSimpArgs false
theorem few1_err (b : List Int) (a e : Int) (he : ¬ e = 0) : Ev (fun k => few1 k b a e) (0, a, e) := by
  unfold few1
  simp only [if_neg he]
  exact Ev.now _
theorem few1_ok (b : List Int) (hb : Byts b) (hs : b.length ≤ 1000000000) (a : Nat) (ha : a ≤ b.length) : Ev (fun k => few1 k b (a : Int) 0) ((varG (b.drop a)).1, wrap64 ((a : Int) + (varG (b.drop a)).2.1), (varG (b.drop a)).2.2) := by
  unfold few1
  simp only [if_pos trivial, if_pos (show (0 : Int) ≤ (a : Int) by omega), if_pos (show (a : Int) ≤ (b.length : Int) by omega), Int.toNat_natCast]
  have h := (Varint_ev (b.drop a) (byt_drop hb a) (by rw [List.length_drop]; omega)).1
  exact Ev.bind h (Ev.now _)
theorem takesL_len : ∀ (n : Nat) (r : List Int) (acc : List Lab), (takesL n r acc).1.length ≤ acc.length + n
  | 0, r, acc => by unfold takesL; exact Nat.le_refl _
  | n + 1, r, acc => by
    unfold takesL
    split
    · split
      · have := takesL_len n (tookL (tookL r 64).2.1 128).2.1 (acc ++ [⟨(tookL r 64).1, (tookL (tookL r 64).2.1 128).1⟩])
        rw [List.length_append, List.length_singleton] at this
        omega
      · simp
    · simp
theorem takeB_bd (b : List Int) (h : (takeB b).2.2 = 0) : (∃ m : Nat, m ≤ b.length ∧ (takeB b).2.1 = (m : Int)) ∧ (takeB b).1.length ≤ 1000 := by
  unfold takeB at h ⊢
  split
  · rename_i h0
    rw [if_pos h0] at h
    split
    · exact ⟨⟨0, Nat.zero_le _, rfl⟩, by simp⟩
    · rename_i h1
      rw [if_neg h1] at h
      have hlen := takesL_len (uget b).1.toNat (b.drop (uget b).2.1.toNat) []
      unfold takeEnd at h ⊢
      split
      · rename_i h2
        split
        · refine ⟨⟨_, Nat.sub_le _ _, rfl⟩, ?_⟩
          show (takesL _ _ _).1.length ≤ 1000
          rw [List.length_nil] at hlen
          omega
        · exact ⟨⟨0, Nat.zero_le _, rfl⟩, by simp⟩
      · exact ⟨⟨0, Nat.zero_le _, rfl⟩, by simp⟩
  · exact ⟨⟨0, Nat.zero_le _, rfl⟩, by simp⟩
def SameT (f g : Nat → Option (Int × Int × List Lab × List Ent × Int)) : Prop := ∃ q : Int × Int × List Lab × List Ent × Int, q.2.2.1.length ≤ 1000 ∧ q.2.2.2.1.length ≤ 1000 ∧ Ev f q ∧ Ev g q
theorem SameT.now (q : Int × Int × List Lab × List Ent × Int) (h : q.2.2.1.length ≤ 1000) (h' : q.2.2.2.1.length ≤ 1000) : SameT (fun _ => some q) (fun _ => some q) := ⟨q, h, h', Ev.now _, Ev.now _⟩
end Go.Proofs.YtdckhaejhfkkbaaDoor.Pu
end
section
namespace Go.Proofs.YtdckhaejhfkkbaaDoor.Pu
open Go Go.RowKit Go.Proofs.YtdckhaejhfkkbaaDoor Go.Proofs.YtdckhaejhfkkbaaDoor.PRT Go.Proofs.YtdckhaejhfkkbaaDoorW.PrintWords Go.Proofs.YtdckhaejhfkkbaaDoorW.PrintLast Go.Proofs.YtdckhaejhfkkbaaDoorW.PrintMore Bq
set_option linter.unusedVariables false
set_option linter.unusedSimpArgs false
def ptsG : Nat → List Int → Int → Int → Int → List Ent → Int × List Int × List Ent
  | 0, xs, _, _, _, out => (0, xs, out)
  | m + 1, xs, r, t, s, out => if (ptG xs r t s).1 = 0 then ptsG m (ptG xs r t s).2.1 (ptG xs r t s).2.2.f0 (ptG xs r t s).2.2.f1.f0 (ptG xs r t s).2.2.f1.f2 (out ++ [(ptG xs r t s).2.2]) else ((ptG xs r t s).1, [], [])
def Wps (l : List Ent) : Prop := ∀ x ∈ l, Wp x
theorem pts_put : ∀ (l : List Ent), Wps l → ∀ (r t s : Int) (out : List Ent) (rest : List Int), Wa r t s → ptsG l.length (ptsL l r t s ++ rest) r t s out = (0, rest, out ++ l)
  | [], _, r, t, s, out, rest, _ => by
    show (0, [] ++ rest, out) = _
    rw [List.nil_append, List.append_nil]
  | x :: l, h, r, t, s, out, rest, ha => by
    have hx := h x List.mem_cons_self
    show ptsG (l.length + 1) (ptL r t s x ++ ptsL l x.f0 x.f1.f0 x.f1.f2 ++ rest) r t s out = _
    rw [List.append_assoc]
    unfold ptsG
    rw [pt_put x hx r t s ha]
    simp only [if_pos trivial]
    rw [pts_put l (fun y hy => h y (List.mem_cons_of_mem _ hy)) _ _ _ _ rest hx.a, List.append_assoc]
    rfl
theorem pts_cut : ∀ (l : List Ent), Wps l → ∀ (r t s : Int) (out : List Ent) (i : Nat), Wa r t s → i < (ptsL l r t s).length → (ptsG l.length ((ptsL l r t s).take i) r t s out).1 = 6
  | [], _, r, t, s, out, i, _, hi => by simp [ptsL] at hi
  | x :: l, h, r, t, s, out, i, ha, hi => by
    have hx := h x List.mem_cons_self
    have h60 : ¬ (6 : Int) = 0 := by decide
    show (ptsG (l.length + 1) ((ptL r t s x ++ ptsL l x.f0 x.f1.f0 x.f1.f2).take i) r t s out).1 = 6
    unfold ptsL at hi
    rw [List.length_append] at hi
    rcases cut_app (A := ptL r t s x) (B := ptsL l x.f0 x.f1.f0 x.f1.f2) i with ⟨h1, e1⟩ | ⟨h1, e1⟩
    · rw [e1]
      unfold ptsG
      rw [pt_cut x hx r t s ha i h1, if_neg h60]
    · rw [e1]
      unfold ptsG
      rw [pt_put x hx r t s ha]
      simp only [if_pos trivial]
      exact pts_cut l (fun y hy => h y (List.mem_cons_of_mem _ hy)) _ _ _ _ _ hx.a (by omega)
theorem pts_back : ∀ (m : Nat) (xs : List Int), Byts xs → ∀ (r t s : Int) (out : List Ent), Wa r t s → (ptsG m xs r t s out).1 = 0 → ∃ l : List Ent, l.length = m ∧ Wps l ∧ (ptsG m xs r t s out).2.2 = out ++ l ∧ xs = ptsL l r t s ++ (ptsG m xs r t s out).2.1
  | 0, xs, hb, r, t, s, out, ha, he => ⟨[], rfl, (by intro x hx; cases hx), (List.append_nil _).symm, rfl⟩
  | m + 1, xs, hb, r, t, s, out, ha, he => by
    unfold ptsG at he ⊢
    by_cases c : (ptG xs r t s).1 = 0
    · rw [if_pos c] at he ⊢
      obtain ⟨h1, h2, h3⟩ := pt_back xs hb r t s ha c
      obtain ⟨l, k1, k2, k3, k4⟩ := pts_back m (ptG xs r t s).2.1 h2 _ _ _ _ h1.a he
      refine ⟨(ptG xs r t s).2.2 :: l, by rw [List.length_cons, k1], fun x hx => ?_, ?_, ?_⟩
      · rcases List.mem_cons.1 hx with rfl | hx
        · exact h1
        · exact k2 x hx
      · rw [k3, List.append_assoc]
        rfl
      · show xs = (ptL r t s (ptG xs r t s).2.2 ++ ptsL l _ _ _) ++ _
        rw [List.append_assoc, ← k4]
        exact h3
    · rw [if_neg c] at he
      exact absurd he c
abbrev RecT := Int × Int × List Lab × List Ent × Int
def recBad (e : Int) : RecT := (0, 0, [], [], e)
def pointsG (b : List Int) : RecT :=
  if (uget b).2.2 = 0 then (if (uget b).1 > 256 then recBad 3 else if (uget b).1 = 0 then recBad 1 else
    (if (ptsG (uget b).1.toNat (b.drop (uget b).2.1.toNat) 0 0 0 []).1 = 0 then (if 0 < (ptsG (uget b).1.toNat (b.drop (uget b).2.1.toNat) 0 0 0 []).2.1.length then recBad 8 else (2, 0, [], (ptsG (uget b).1.toNat (b.drop (uget b).2.1.toNat) 0 0 0 []).2.2, 0)) else recBad (ptsG (uget b).1.toNat (b.drop (uget b).2.1.toNat) 0 0 0 []).1))
  else recBad (uget b).2.2
def seriesG (b : List Int) : RecT :=
  if (uget b).2.2 = 0 then (if (uget b).1 = 0 ∨ (uget b).1 > 4294967295 then recBad 1 else
    (if (takeB (b.drop (uget b).2.1.toNat)).2.2 = 0 then (if (uget b).2.1 + (takeB (b.drop (uget b).2.1.toNat)).2.1 < (b.length : Int) then recBad 8 else (1, (uget b).1, (takeB (b.drop (uget b).2.1.toNat)).1, [], 0)) else recBad (takeB (b.drop (uget b).2.1.toNat)).2.2))
  else recBad (uget b).2.2
def takeG : List Int → RecT
  | [] => recBad 6
  | x :: b => if x = 1 then seriesG b else if x = 2 then pointsG b else recBad 130
theorem series_pure (b : List Int) (hb : Byts b) (hs : b.length ≤ 1000000000) : Ev (fun k => record_series.f k b) (seriesG b) := by
  obtain ⟨u1, _⟩ := Uvarint_ev b hb (by omega)
  unfold record_series.f seriesG
  refine Ev.bind u1 ?_
  rcases uget_cases b hb with ⟨n, h, hl, _, hn⟩ | ⟨e, he, h⟩
  · rw [h]
    obtain ⟨L, hL⟩ : ∃ L, L = (uv n).length := ⟨_, rfl⟩
    rw [← hL] at hl ⊢
    simp only [if_pos trivial, Int.toNat_natCast]
    have bad : ∀ x y, Ev (fun k => record_series.j0 k b x y true) (recBad 1) := by
      intro x y
      refine Ev.step (f := _) (fun k => by simp only [record_series.j0]; rfl) ?_
      simp only [if_true]
      exact Ev.now _
    by_cases h0 : (n : Int) = 0
    · simp only [if_pos h0, if_pos (show (n : Int) = 0 ∨ (n : Int) > 4294967295 from .inl h0)]
      exact bad _ _
    by_cases hg : (n : Int) > 4294967295
    · simp only [if_neg h0, if_pos (show (n : Int) = 0 ∨ (n : Int) > 4294967295 from .inr hg), decide_eq_true hg]
      exact bad _ _
    have hor : ¬ ((n : Int) = 0 ∨ (n : Int) > 4294967295) := fun h => h.elim h0 hg
    simp only [if_neg h0, if_neg hor, decide_eq_false hg]
    refine Ev.step (f := _) (fun k => by simp only [record_series.j0]; rfl) ?_
    have c1 : (0 : Int) ≤ (L : Int) := by omega
    have c2 : (L : Int) ≤ (b.length : Int) := by omega
    simp only [Bool.false_eq_true, if_false, if_pos c1, if_pos c2, Int.toNat_natCast]
    have hd : (b.drop L).length = b.length - L := List.length_drop
    obtain ⟨t1, _⟩ := Take_ev (b.drop L) (byt_drop hb L) (by omega)
    have hbd := takeB_bd (b.drop L)
    refine Ev.bind t1 ?_
    by_cases he : (takeB (b.drop L)).2.2 = 0
    · obtain ⟨⟨m, hm, hM⟩, _⟩ := hbd he
      simp only [if_pos he, hM]
      have hmod : (n : Int) % 4294967296 = (n : Int) := by omega
      have hw : wrap64 ((L : Int) + (m : Int)) = (L : Int) + (m : Int) := w64 (by omega) (by omega)
      by_cases hend : (L : Int) + (m : Int) < (b.length : Int)
      · simp only [hw, if_pos hend]
        exact Ev.now _
      · simp only [hw, if_neg hend, hmod]
        exact Ev.now _
    · simp only [if_neg he]
      exact Ev.now _
  · rw [h]
    simp only [if_neg he]
    exact Ev.now _
theorem step_pure (b : List Int) (hb : Byts b) (hs : b.length ≤ 1000000000) (a : Nat) (ha : a ≤ b.length) (r t s : Int) :
    (¬ (ptG (b.drop a) r t s).1 = 0 ∧ Ev (fun k => recStep k b (a : Int) r t s) ((ptG (b.drop a) r t s).1, 0, 0, 0, 0, 0)) ∨
    (∃ (a' : Nat) (x : Ent), a' ≤ b.length ∧ ptG (b.drop a) r t s = (0, b.drop a', x) ∧ Ev (fun k => recStep k b (a : Int) r t s) (0, (a' : Int), x.f0, x.f1.f0, x.f1.f1, x.f1.f2)) := by
  have f1 := few1_ok b hb hs a ha
  have err2 : ∀ (e z y : Int), ¬ e = 0 → errN (errS e z) y = e := fun e z y he => by unfold errN errS; rw [if_neg he, if_neg he]
  have hone : ¬ (1 : Int) = 0 := by decide
  unfold recStep ptG
  rcases varG_cases (b.drop a) (byt_drop hb a) with ⟨v1, n1, hn1, h1⟩ | ⟨e, he, h1⟩
  · rw [h1] at f1 ⊢
    rw [List.length_drop] at hn1
    have e1 : wrap64 ((a : Int) + (n1 : Int)) = ((a + n1 : Nat) : Int) := wn (by omega) (by omega)
    simp only [e1, Int.toNat_natCast, List.drop_drop, if_pos trivial] at f1 ⊢
    clear e1
    by_cases hr : refN r v1 = 0 ∨ refN r v1 > 4294967295
    · rw [if_pos hr]
      refine .inl ⟨hone, ?_⟩
      refine Ev.bind f1 ?_
      have x1 : errR 0 (refN r v1) = 1 := by
        unfold errR
        rw [if_pos rfl]
        rcases hr with hr | hr
        · rw [if_pos hr]
        · by_cases h0 : refN r v1 = 0
          · rw [if_pos h0]
          · rw [if_neg h0, if_pos hr]
      simp only [x1]
      refine Ev.bind (few1_err b _ 1 hone) (Ev.bind (few1_err b _ 1 hone) ?_)
      simp only [err2 1 _ _ hone, if_neg hone]
      exact Ev.now _
    · rw [if_neg hr]
      have h0 : ¬ refN r v1 = 0 := fun h => hr (.inl h)
      have hg : ¬ refN r v1 > 4294967295 := fun h => hr (.inr h)
      have x1 : errR 0 (refN r v1) = 0 := by unfold errR; rw [if_pos rfl, if_neg h0, if_neg hg]
      unfold pt2
      have f2 := few1_ok b hb hs (a + n1) (by omega)
      rcases varG_cases (b.drop (a + n1)) (byt_drop hb _) with ⟨v2, n2, hn2, h2⟩ | ⟨e, he, h2⟩
      · rw [h2] at f2 ⊢
        rw [List.length_drop] at hn2
        have e1 : wrap64 (((a + n1 : Nat) : Int) + (n2 : Int)) = ((a + n1 + n2 : Nat) : Int) := wn (by omega) (by omega)
        simp only [e1, Int.toNat_natCast, List.drop_drop, if_pos trivial] at f2 ⊢
        clear e1
        unfold pt3
        have f3 := few1_ok b hb hs (a + n1 + n2) (by omega)
        rcases varG_cases (b.drop (a + n1 + n2)) (byt_drop hb _) with ⟨v3, n3, hn3, h3⟩ | ⟨e, he, h3⟩
        · rw [h3] at f3 ⊢
          rw [List.length_drop] at hn3
          have e1 : wrap64 (((a + n1 + n2 : Nat) : Int) + (n3 : Int)) = ((a + n1 + n2 + n3 : Nat) : Int) := wn (by omega) (by omega)
          simp only [e1, Int.toNat_natCast, List.drop_drop, if_pos trivial] at f3 ⊢
          clear e1
          obtain ⟨a3, ha3⟩ : ∃ a3, a3 = a + n1 + n2 + n3 := ⟨_, rfl⟩
          rw [← ha3] at f3 ⊢
          have hle : a3 ≤ b.length := by omega
          have hw : wrap64 ((b.length : Int) - (a3 : Int)) = ((b.length - a3 : Nat) : Int) := wn (by omega) (by omega)
          have hl3 : (b.drop a3).length = b.length - a3 := List.length_drop
          by_cases hz : seqN s v3 = 0
          · rw [if_pos hz]
            refine .inl ⟨hone, ?_⟩
            refine Ev.bind f1 ?_
            simp only [x1]
            refine Ev.bind f2 (Ev.bind f3 ?_)
            have x2 : ∀ y : Int, errN (errS 0 (seqN s v3)) y = 1 := fun y => by unfold errN errS; rw [if_pos rfl, if_pos hz, if_neg hone]
            simp only [x2, if_neg hone]
            exact Ev.now _
          · rw [if_neg hz]
            have x3 : errS 0 (seqN s v3) = 0 := by unfold errS; rw [if_pos rfl, if_neg hz]
            unfold pt4
            by_cases h8 : b.length - a3 < 8
            · have h6 : ¬ (6 : Int) = 0 := by decide
              have h8' : (b.drop a3).length < 8 := by rw [hl3]; exact h8
              rw [if_pos h8']
              refine .inl ⟨h6, ?_⟩
              refine Ev.bind f1 ?_
              simp only [x1]
              refine Ev.bind f2 (Ev.bind f3 ?_)
              have x4 : errN 0 ((b.length - a3 : Nat) : Int) = 6 := by
                unfold errN
                rw [if_pos rfl, if_pos (by clear hw; omega)]
              simp only [x3, hw, x4, if_neg h6]
              exact Ev.now _
            · have h8' : ¬ (b.drop a3).length < 8 := by rw [hl3]; exact h8
              rw [if_neg h8']
              refine .inr ⟨a3 + 8, _, by clear hw; omega, by rw [List.drop_drop], ?_⟩
              refine Ev.bind f1 ?_
              simp only [x1]
              refine Ev.bind f2 (Ev.bind f3 ?_)
              have x4 : errN 0 ((b.length - a3 : Nat) : Int) = 0 := by
                unfold errN
                rw [if_pos rfl, if_neg (by clear hw; omega)]
              have c1 : (0 : Int) ≤ (a3 : Int) := by clear hw; omega
              have c2 : ((a3 + 8 : Nat) : Int) ≤ (b.length : Int) := by clear hw; omega
              have c3 : (b.length : Int) ≤ 1000000000000 := by clear hw; omega
              have c4 : (a3 : Int) + 8 = ((a3 + 8 : Nat) : Int) := by clear hw; omega
              simp only [x3, hw, x4, if_pos trivial, if_pos c1, if_pos c2, if_pos c3, Int.toNat_natCast, c4]
              exact Ev.now _
        · rw [h3] at f3 ⊢
          simp only [if_neg he] at f3 ⊢
          refine .inl ⟨he, ?_⟩
          refine Ev.bind f1 ?_
          simp only [x1]
          refine Ev.bind f2 (Ev.bind f3 ?_)
          simp only [err2 e _ _ he, if_neg he]
          exact Ev.now _
      · rw [h2] at f2 ⊢
        simp only [if_neg he] at f2 ⊢
        refine .inl ⟨he, ?_⟩
        refine Ev.bind f1 ?_
        simp only [x1]
        refine Ev.bind f2 (Ev.bind (few1_err b _ e he) ?_)
        simp only [err2 e _ _ he, if_neg he]
        exact Ev.now _
  · rw [h1] at f1 ⊢
    simp only [if_neg he] at f1 ⊢
    refine .inl ⟨he, ?_⟩
    refine Ev.bind f1 ?_
    have x1 : ∀ z, errR e z = e := fun z => by unfold errR; rw [if_neg he]
    simp only [x1]
    refine Ev.bind (few1_err b _ e he) (Ev.bind (few1_err b _ e he) ?_)
    simp only [err2 e _ _ he, if_neg he]
    exact Ev.now _
theorem loop_pure (b : List Int) (hb : Byts b) (hs : b.length ≤ 1000000000) : ∀ (m a : Nat) (r t s : Int) (out : List Ent), a ≤ b.length →
    (¬ (ptsG m (b.drop a) r t s out).1 = 0 ∧ Ev (fun k => recLoop k b m (a : Int) r t s out) ((ptsG m (b.drop a) r t s out).1, 0, [])) ∨
    (∃ (a' : Nat) (l : List Ent), a' ≤ b.length ∧ ptsG m (b.drop a) r t s out = (0, b.drop a', l) ∧ Ev (fun k => recLoop k b m (a : Int) r t s out) (0, (a' : Int), l))
  | 0, a, r, t, s, out, ha => .inr ⟨a, out, ha, rfl, by unfold recLoop; exact Ev.now _⟩
  | m + 1, a, r, t, s, out, ha => by
    unfold ptsG recLoop
    rcases step_pure b hb hs a ha r t s with ⟨he, h⟩ | ⟨a', x, ha', hx, h⟩
    · rw [if_neg he]
      refine .inl ⟨he, Ev.bind h ?_⟩
      simp only [if_neg he]
      exact Ev.now _
    · rw [hx]
      simp only [if_pos trivial]
      rcases loop_pure b hb hs m a' x.f0 x.f1.f0 x.f1.f2 (out ++ [x]) ha' with ⟨he, h2⟩ | ⟨a2, l, ha2, h3, h2⟩
      · refine .inl ⟨he, Ev.bind h ?_⟩
        simp only [if_pos trivial]
        exact h2
      · refine .inr ⟨a2, l, ha2, h3, Ev.bind h ?_⟩
        simp only [if_pos trivial]
        exact h2
theorem points_pure (b : List Int) (hb : Byts b) (hs : b.length ≤ 1000000000) : Ev (fun k => record_points.f k b) (pointsG b) := by
  have e : (fun k => record_points.f k b) = fun k => recPoints k b := rfl
  rw [e]
  obtain ⟨u1, _⟩ := Uvarint_ev b hb (by omega)
  unfold recPoints pointsG
  refine Ev.bind u1 ?_
  rcases uget_cases b hb with ⟨n, h, hl, _, hn⟩ | ⟨e, he, h⟩
  · rw [h]
    obtain ⟨L, hL⟩ : ∃ L, L = (uv n).length := ⟨_, rfl⟩
    rw [← hL] at hl ⊢
    simp only [if_pos trivial, Int.toNat_natCast]
    by_cases hg : (n : Int) > 256
    · simp only [if_pos hg]
      exact Ev.now _
    by_cases h0 : (n : Int) = 0
    · simp only [if_neg hg, if_pos h0]
      exact Ev.now _
    have c0 : (0 : Int) ≤ (n : Int) := by omega
    simp only [if_neg hg, if_neg h0, if_pos c0]
    rcases loop_pure b hb hs n L 0 0 0 [] hl with ⟨he, h2⟩ | ⟨a2, l, ha2, h3, h2⟩
    · refine Ev.bind h2 ?_
      simp only [if_neg he]
      exact Ev.now _
    · rw [h3]
      refine Ev.bind h2 ?_
      have hd : (b.drop a2).length = b.length - a2 := List.length_drop
      by_cases hlt : a2 < b.length
      · simp only [if_pos trivial, if_pos (show (a2 : Int) < (b.length : Int) by omega), if_pos (show 0 < (b.drop a2).length by omega)]
        exact Ev.now _
      · simp only [if_pos trivial, if_neg (show ¬ (a2 : Int) < (b.length : Int) by omega), if_neg (show ¬ 0 < (b.drop a2).length by omega)]
        exact Ev.now _
  · rw [h]
    simp only [if_neg he]
    exact Ev.now _
theorem RTake_ev (b : List Int) (hb : Byts b) (hs : b.length ≤ 1000000000) : Ev (fun k => record_Take.f k b) (takeG b) := by
  unfold record_Take.f
  cases b with
  | nil =>
    simp only [List.length_nil, if_pos (show ((0 : Nat) : Int) = 0 from rfl)]
    exact Ev.now _
  | cons x b =>
    have hr : rd (x :: b) 0 = x := rfl
    have hb' : Byts b := fun y hy => hb y (List.mem_cons_of_mem _ hy)
    rw [List.length_cons] at hs
    have c0 : ¬ (((x :: b).length : Nat) : Int) = 0 := by rw [List.length_cons]; omega
    have c1 : (0 : Int) < (((x :: b).length : Nat) : Int) := by rw [List.length_cons]; omega
    have c2 : (1 : Int) ≤ (((x :: b).length : Nat) : Int) := by rw [List.length_cons]; omega
    simp only [if_neg c0, if_pos c1, hr, if_pos c2, List.drop_succ_cons, List.drop_zero, takeG]
    by_cases h1 : x = 1
    · simp only [if_pos h1]
      exact Ev.bind (series_pure b hb' (by omega)) (Ev.now _)
    · by_cases h2 : x = 2
      · simp only [if_neg h1, if_pos h2]
        exact Ev.bind (points_pure b hb' (by omega)) (Ev.now _)
      · simp only [if_neg h1, if_neg h2]
        exact Ev.now _
end Go.Proofs.YtdckhaejhfkkbaaDoor.Pu
end
