import Derived.Test.YtdhmabofncbohaaDoorCLabelsBackPU3
import Derived.Test.YtdhmabofncbohaaDoorCLabelsBackPLCx23
import Derived.Test.YtdhmabofncbohaaDoorCLabelsBackH19
import Derived.Test.YtdhmabofncbohaaDoorCLabelsBackPLCx2
import Derived.Test.YtdhmabofncbohaaDoorCLabelsBackPLCx3
import Derived.Test.YtdhmabofncbohaaDoorCLabelsBackPLCx4
import Derived.Test.YtdhmabofncbohaaDoorCLabelsBackPLCx5
import Derived.Test.YtdhmabofncbohaaDoorCLabelsBackPLCx6
import Derived.Test.YtdhmabofncbohaaDoorCLabelsBackPLCx13
import Derived.Test.YtdhmabofncbohaaDoorCLabelsBackPLCx14
import Derived.Test.YtdhmabofncbohaaDoorCLabelsBackPLCx8
import Derived.Test.YtdhmabofncbohaaDoorCLabelsBackQ5
import Derived.Test.YtdhmabofncbohaaDoorCLabelsBackPLCx1
namespace Go.Proofs.YtdhmabofncbohaaDoor.Bq
end Go.Proofs.YtdhmabofncbohaaDoor.Bq
section
namespace Go.Proofs.YtdhmabofncbohaaDoor.Pu
open Go Go.RowKit Go.Proofs.YtdhmabofncbohaaDoor Go.Proofs.YtdhmabofncbohaaDoor.PLC Go.Proofs.YtdhmabofncbohaaDoorW.PrintWords Go.Proofs.YtdhmabofncbohaaDoorW.PrintLast Go.Proofs.YtdhmabofncbohaaDoorW.PrintMore Bq
set_option linter.unusedVariables false
set_option linter.unusedSimpArgs false
def sizedL (s : ByteArray) : List Int := Bq.ints (uv s.size) ++ bytesOf s
def labL (x : Lab) : List Int := sizedL x.f0 ++ sizedL x.f1
def putL (l : List Lab) : List Int := Bq.ints (uv l.length) ++ l.flatMap labL
def putB (l : List Lab) : List Int × Int := if rightB l = 0 then (putL l, 0) else ([], rightB l)
theorem sizedL_len (s : ByteArray) (hs : s.size ≤ 100000) : (sizedL s).length ≤ 10 + s.size := by
  unfold sizedL
  rw [List.length_append, Bq.ints_length, bytesOf_length]
  have := uv_len10 s.size (by omega)
  omega
theorem sized_ev (s : ByteArray) (acc : List Int) (hs : s.size ≤ 100000) (ha : acc.length ≤ 100000000000) :
    Ev (fun k => labels_sized.f k acc s) (acc ++ sizedL s) ∧ Ev (fun k => manometerref05_sized.f k s) (sizedL s) := by
  obtain ⟨h1, h2⟩ := PutUvarint_ev s.size (by omega)
  have hu := uv_len10 s.size (by omega)
  have hw : IntKind.u64.wrap (s.size : Int) = (s.size : Int) := wraps_u64n _ (by omega) (by omega)
  have b0 := bytesOf_length s
  have l0 := Bq.ints_length (uv s.size)
  unfold labels_sized.f manometerref05_sized.f
  rw [hw]
  constructor
  · refine h1.bind ?_
    have c1 : acc.length + (Bq.ints (uv s.size)).length < 140737488355328 := by omega
    have c2 : (acc ++ Bq.ints (uv s.size)).length + s.size < 140737488355328 := by rw [List.length_append]; omega
    simp only [if_pos c1, Option.bind_some, if_pos c2]
    unfold sizedL
    rw [← List.append_assoc]
    exact Ev.now _
  · refine h2.bind ?_
    have c1 : s.size ≤ 9223372036854775807 := by omega
    simp only [if_pos c1]
    have hj := Join_ev [Bq.ints (uv s.size), bytesOf s] (by simp) (by simp [b0, l0]; omega)
    have ej : [Bq.ints (uv s.size), bytesOf s].flatten = sizedL s := by unfold sizedL; simp
    rw [ej] at hj
    exact hj.bind (Ev.now _)
theorem labL_len (x : Lab) (h0 : x.f0.size ≤ 100000) (h1 : x.f1.size ≤ 100000) : (labL x).length ≤ 200020 := by
  unfold labL
  rw [List.length_append]
  have := sizedL_len x.f0 h0
  have := sizedL_len x.f1 h1
  omega
theorem Put_l0 (l : List Lab) (hs : Sm l) : ∀ (d n : Nat) (acc : List Int), n + d = l.length → acc.length ≤ 300000 * (n + 1) →
    Ev (fun k => labels_Put.l0 k acc l (l.length : Int) (n : Int)) (acc ++ (l.drop n).flatMap labL, 0) ∧ Ev (fun k => manometerref05_Put.l0 k acc l (l.length : Int) (n : Int)) (acc ++ (l.drop n).flatMap labL, 0)
  | d, n, acc, hd, ha => by
    have hl := hs.1
    by_cases hlt : n < l.length
    · obtain ⟨d, rfl⟩ : ∃ e, d = e + 1 := ⟨d - 1, by omega⟩
      obtain ⟨s0, s1⟩ := hs.at n hlt
      have hbl := labL_len _ s0 s1
      have ih := Put_l0 l hs d (n + 1) (acc ++ labL (l.getD n z44)) (by omega) (by rw [List.length_append]; omega)
      rw [dropS l n hlt, List.flatMap_cons, ← List.append_assoc]
      have e1 : (n : Int) < (l.length : Int) := by omega
      have e2 : (0 : Int) ≤ (n : Int) := by omega
      generalize hx : l.getD n z44 = x at *
      have q0 := sizedL_len x.f0 s0
      have q1 := sizedL_len x.f1 s1
      obtain ⟨a1, a2⟩ := sized_ev x.f0 acc s0 (by omega)
      obtain ⟨b1, b2⟩ := sized_ev x.f1 (acc ++ sizedL x.f0) s1 (by rw [List.length_append]; omega)
      constructor
      · refine Ev.step (f := _) (fun k => by simp only [labels_Put.l0]; rfl) ?_
        simp only [if_pos e1, if_pos e2, rdn, hx, w1 n (by omega)]
        refine a1.bind ?_
        refine b1.bind ?_
        have e : acc ++ sizedL x.f0 ++ sizedL x.f1 = acc ++ labL x := by unfold labL; simp
        rw [e]
        exact ih.1
      · refine Ev.step (f := _) (fun k => by simp only [manometerref05_Put.l0]; rfl) ?_
        simp only [if_pos e1, if_pos e2, rdn, hx, w1 n (by omega)]
        refine a2.bind ?_
        refine b2.bind ?_
        have hj := Join_ev [acc, sizedL x.f0, sizedL x.f1] (by simp) (by simp; omega)
        have ej : [acc, sizedL x.f0, sizedL x.f1].flatten = acc ++ labL x := by unfold labL; simp
        rw [ej] at hj
        exact hj.bind ih.2
    · have e1 : ¬ (n : Int) < (l.length : Int) := by omega
      rw [List.drop_of_length_le (by omega), List.flatMap_nil, List.append_nil]
      constructor
      · refine Ev.step (f := _) (fun k => by simp only [labels_Put.l0]; rfl) ?_
        simp only [if_neg e1]
        exact Ev.now _
      · refine Ev.step (f := _) (fun k => by simp only [manometerref05_Put.l0]; rfl) ?_
        simp only [if_neg e1]
        exact Ev.now _
theorem Put_ev (l : List Lab) (hs : Sm l) : Ev (fun k => labels_Put.f k l) (putB l) ∧ Ev (fun k => manometerref05_Put.f k l) (putB l) := by
  have hl := hs.1
  obtain ⟨r1, r2⟩ := Right_ev l hs
  obtain ⟨u1, u2⟩ := PutUvarint_ev l.length (by omega)
  have hu := uv_len10 l.length (by omega)
  obtain ⟨h1, h2⟩ := Put_l0 l hs l.length 0 (Bq.ints (uv l.length)) (by omega) (by rw [Bq.ints_length]; omega)
  have hw : IntKind.u64.wrap (l.length : Int) = (l.length : Int) := wraps_u64n _ (by omega) (by omega)
  unfold labels_Put.f manometerref05_Put.f putB putL
  rw [hw]
  constructor
  · refine r1.bind ?_
    by_cases e : rightB l = 0
    · simp only [if_pos e]
      exact u1.bind (by simpa using h1)
    · simp only [if_neg e]; exact Ev.now _
  · refine r2.bind ?_
    by_cases e : rightB l = 0
    · simp only [if_pos e]
      exact u2.bind (by simpa using h2)
    · simp only [if_neg e]; exact Ev.now _
theorem byt_str {xs : List Int} (h : Byts xs) : ∃ l : Str, xs = ints l := by
  refine ⟨xs.map fun x => UInt8.ofNat x.toNat, ?_⟩
  unfold ints
  rw [List.map_map]
  conv => lhs; rw [← List.map_id xs]
  apply List.map_congr_left
  intro x hx
  have := h x hx
  simp only [Function.comp, id, UInt8.toNat_ofNat']
  omega
theorem nums_size {xs : List Int} (h : Byts xs) : (strOfNums xs).size = xs.length := by
  obtain ⟨l, rfl⟩ := byt_str h
  rw [← B_length, B_nums, ints_length]
theorem of_nums {xs : List Int} (h : Byts xs) : bytesOf (strOfNums xs) = xs := by
  obtain ⟨l, rfl⟩ := byt_str h
  show ints (B (strOfNums (ints l))) = ints l
  rw [B_nums]
theorem nums_of (s : ByteArray) : strOfNums (bytesOf s) = s := nums_B s
def tookL (r : List Int) (most : Nat) : ByteArray × List Int × Int :=
  if (uget r).2.2 = 0 then
    (if (uget r).1 > (most : Int) then ((⟨#[]⟩ : ByteArray), [], 3)
    else if (uget r).1 > (r.length : Int) - (uget r).2.1 then ((⟨#[]⟩ : ByteArray), [], 6)
    else (strOfNums ((r.drop (uget r).2.1.toNat).take (uget r).1.toNat), r.drop ((uget r).2.1.toNat + (uget r).1.toNat), 0))
  else ((⟨#[]⟩ : ByteArray), [], (uget r).2.2)
theorem took_err {r : List Int} {most : Nat} {e : Int} (he : ¬ e = 0) (h : uget r = (0, 0, e)) : tookL r most = ((⟨#[]⟩ : ByteArray), [], e) := by
  unfold tookL
  rw [h, if_neg he]
theorem took_num {r : List Int} {most n k : Nat} (h : uget r = ((n : Int), (k : Int), 0)) (hk : k ≤ r.length) :
    tookL r most = if most < n then ((⟨#[]⟩ : ByteArray), [], 3) else if r.length < k + n then ((⟨#[]⟩ : ByteArray), [], 6) else (strOfNums ((r.drop k).take n), r.drop (k + n), 0) := by
  unfold tookL
  rw [h]
  simp only [if_true, Int.toNat_natCast]
  by_cases h1 : most < n
  · rw [if_pos (by omega), if_pos h1]
  · rw [if_neg (by omega), if_neg h1]
    by_cases h2 : r.length < k + n
    · rw [if_pos (by omega), if_pos h2]
    · rw [if_neg (by omega), if_neg h2]
theorem took_ok (r : List Int) (hb : Byts r) (most : Nat) : (tookL r most).2.1.length ≤ r.length ∧ Byts (tookL r most).2.1 ∧ (tookL r most).1.size ≤ most := by
  rcases uget_cases r hb with ⟨n, hu, hk, _, _⟩ | ⟨e, he, hu⟩
  · rw [took_num hu hk]
    split
    · exact ⟨Nat.zero_le _, byt_nil, Nat.zero_le _⟩
    · split
      · exact ⟨Nat.zero_le _, byt_nil, Nat.zero_le _⟩
      · refine ⟨by rw [List.length_drop]; omega, byt_drop hb _, ?_⟩
        rw [nums_size (byt_take (byt_drop hb _) _), List.length_take]
        omega
  · rw [took_err he hu]
    exact ⟨Nat.zero_le _, byt_nil, Nat.zero_le _⟩
theorem took_ev (r : List Int) (hb : Byts r) (hs : r.length ≤ 1000000000) (most : Nat) (hm : most ≤ 1000000) : Ev (fun k => manometerref05_took.f k r (most : Int)) (tookL r most) := by
  unfold manometerref05_took.f
  refine (Uvarint_ev r hb (by omega)).2.bind ?_
  rcases uget_cases r hb with ⟨n, hu, hk, _, _⟩ | ⟨e, he, hu⟩
  · rw [took_num hu hk, hu]
    simp only [if_true]
    generalize (uv n).length = q at *
    by_cases h1 : most < n
    · simp only [if_pos (show (n : Int) > (most : Int) by omega), if_pos h1]
      exact Ev.now _
    · have e1 : IntKind.u64.wrap (wrap64 ((r.length : Int) - (q : Int))) = (r.length : Int) - (q : Int) := by rw [w64 (by omega) (by omega), wraps_u64n _ (by omega) (by omega)]
      have e2 : wrap64 ((q : Int) + wrap64 (n : Int)) = ((q + n : Nat) : Int) := by rw [w64 (x := (n : Int)) (by omega) (by omega)]; exact wn rfl (by omega)
      simp only [if_neg (show ¬ (n : Int) > (most : Int) by omega), if_neg h1, e1, e2]
      by_cases h2 : r.length < q + n
      · simp only [if_pos (show (n : Int) > (r.length : Int) - (q : Int) by omega), if_pos h2]
        exact Ev.now _
      · simp only [if_neg (show ¬ (n : Int) > (r.length : Int) - (q : Int) by omega), if_neg h2, if_pos (show (0 : Int) ≤ (q : Int) by omega), if_pos (show (q : Int) ≤ ((q + n : Nat) : Int) by omega), if_pos (show ((q + n : Nat) : Int) ≤ (r.length : Int) by omega), if_pos (show (0 : Int) ≤ ((q + n : Nat) : Int) by omega), Int.toNat_natCast]
        rw [List.drop_take, show q + n - q = n by omega]
        exact Ev.now _
  · rw [took_err he hu, hu]
    simp only [if_neg he]
    exact Ev.now _
theorem text_ev (b : List Int) (hb : Byts b) (hs : b.length ≤ 1000000000) (a : Nat) (ha : a ≤ b.length) (most : Nat) (hm : most ≤ 1000000) : Ev (fun k => labels_text.f k b (a : Int) (most : Int)) ((tookL (b.drop a) most).1, if (tookL (b.drop a) most).2.2 = 0 then ((b.length - (tookL (b.drop a) most).2.1.length : Nat) : Int) else 0, (tookL (b.drop a) most).2.2) := by
  unfold labels_text.f
  have hl : (b.drop a).length = b.length - a := List.length_drop ..
  simp only [if_pos (show (0 : Int) ≤ (a : Int) by omega), if_pos (show (a : Int) ≤ (b.length : Int) by omega), Int.toNat_natCast]
  have hwm : IntKind.u64.wrap (most : Int) = (most : Int) := wraps_u64n _ (by omega) (by omega)
  refine (Uvarint_ev (b.drop a) (byt_drop hb a) (by omega)).1.bind ?_
  rcases uget_cases (b.drop a) (byt_drop hb a) with ⟨n, hu, hk, _, _⟩ | ⟨e, he, hu⟩
  · rw [took_num hu hk, hu]
    simp only [if_true, hwm]
    generalize (uv n).length = q at *
    rw [hl] at hk ⊢
    by_cases h1 : most < n
    · simp only [if_pos (show (n : Int) > (most : Int) by omega), if_pos h1]
      exact Ev.now _
    · have e1 : wrap64 ((a : Int) + (q : Int)) = ((a + q : Nat) : Int) := wn rfl (by omega)
      have e2 : wrap64 (((a + q : Nat) : Int) + wrap64 (n : Int)) = ((a + q + n : Nat) : Int) := by rw [w64 (x := (n : Int)) (by omega) (by omega)]; exact wn rfl (by omega)
      simp only [if_neg (show ¬ (n : Int) > (most : Int) by omega), if_neg h1, e1, e2]
      by_cases h2 : b.length - a < q + n
      · simp only [if_pos (show ((a + q + n : Nat) : Int) > (b.length : Int) by omega), if_pos h2]
        exact Ev.now _
      · simp only [if_neg (show ¬ ((a + q + n : Nat) : Int) > (b.length : Int) by omega), if_neg h2, if_pos (show (0 : Int) ≤ ((a + q : Nat) : Int) by omega), if_pos (show ((a + q : Nat) : Int) ≤ ((a + q + n : Nat) : Int) by omega), if_pos (show ((a + q + n : Nat) : Int) ≤ (b.length : Int) by omega), Int.toNat_natCast, if_true]
        rw [List.drop_take, show a + q + n - (a + q) = n by omega, List.drop_drop, List.drop_drop, List.length_drop, show b.length - (b.length - (a + (q + n))) = a + q + n by omega]
        exact Ev.now _
  · rw [took_err he hu, hu]
    simp only [if_neg he]
    exact Ev.now _
theorem tookL_rest (b : List Int) (hb : Byts b) (a : Nat) (ha : a ≤ b.length) (most : Nat) (h : (tookL (b.drop a) most).2.2 = 0) : b.drop (b.length - (tookL (b.drop a) most).2.1.length) = (tookL (b.drop a) most).2.1 := by
  have hl : (b.drop a).length = b.length - a := List.length_drop ..
  rcases uget_cases (b.drop a) (byt_drop hb a) with ⟨n, hu, hk, _, _⟩ | ⟨e, he, hu⟩
  · rw [took_num hu hk] at h ⊢
    split at h
    · exact absurd h (by decide)
    · rename_i h1
      rw [if_neg h1]
      split at h
      · exact absurd h (by decide)
      · rename_i h2
        rw [if_neg h2]
        simp only [List.drop_drop, List.length_drop]
        congr 1
        omega
  · rw [took_err he hu] at h
    exact absurd h he
def takesL : Nat → List Int → List Lab → List Lab × List Int × Int
  | 0, r, acc => (acc, r, 0)
  | n + 1, r, acc =>
    if (tookL r 64).2.2 = 0 then
      (if (tookL (tookL r 64).2.1 128).2.2 = 0 then takesL n (tookL (tookL r 64).2.1 128).2.1 (acc ++ [⟨(tookL r 64).1, (tookL (tookL r 64).2.1 128).1⟩])
      else ([], [], (tookL (tookL r 64).2.1 128).2.2))
    else ([], [], (tookL r 64).2.2)
def takeEnd (b : List Int) (z : List Lab × List Int × Int) : List Lab × Int × Int :=
  if z.2.2 = 0 then (if rightB z.1 = 0 then (z.1, ((b.length - z.2.1.length : Nat) : Int), 0) else ([], 0, rightB z.1)) else ([], 0, z.2.2)
def takeB (b : List Int) : List Lab × Int × Int :=
  if (uget b).2.2 = 0 then (if (uget b).1 > 16 then ([], 0, 3) else takeEnd b (takesL (uget b).1.toNat (b.drop (uget b).2.1.toNat) [])) else ([], 0, (uget b).2.2)
theorem sm_more {acc : List Lab} {s t : ByteArray} (h : Sm acc) (hn : acc.length + 1 ≤ 100000) (h0 : s.size ≤ 64) (h1 : t.size ≤ 128) : Sm (acc ++ [⟨s, t⟩]) :=
  ⟨by rw [List.length_append, List.length_singleton]; exact hn, fun x hx => by
    rcases List.mem_append.1 hx with hx | hx
    · exact h.2 x hx
    · rw [List.mem_singleton.1 hx]
      exact ⟨by show s.size ≤ 100000; omega, by show t.size ≤ 100000; omega⟩⟩
theorem RTake_l0 (b : List Int) (n : Nat) (hn : n ≤ 16) (hs : b.length ≤ 1000000000) : ∀ (d i : Nat) (acc : List Lab) (r : List Int), i + d = n → acc.length = i → Sm acc → Byts r → r.length ≤ b.length →
    Ev (fun k => manometerref05_Take.l0 k b acc r (n : Int) (i : Int)) (takeEnd b (takesL d r acc))
  | d, i, acc, r, hd, hai, hsm, hr, hrl => by
    refine Ev.step (f := _) (fun k => by simp only [manometerref05_Take.l0]; rfl) ?_
    cases d with
    | zero =>
      have e1 : ¬ (i : Int) < (n : Int) := by omega
      simp only [if_neg e1]
      refine (Right_ev acc hsm).2.bind ?_
      unfold takesL takeEnd
      simp only [if_true]
      have e2 : wrap64 ((b.length : Int) - (r.length : Int)) = ((b.length - r.length : Nat) : Int) := wn (by omega) (by omega)
      by_cases h : rightB acc = 0
      · simp only [if_pos h, e2]; exact Ev.now _
      · simp only [if_neg h]; exact Ev.now _
    | succ d =>
      have e1 : (i : Int) < (n : Int) := by omega
      simp only [if_pos e1, w1 i (by omega)]
      refine (took_ev r hr (by omega) 64 (by omega)).bind ?_
      obtain ⟨t1, t2, t3⟩ := took_ok r hr 64
      unfold takesL
      generalize tookL r 64 = y at *
      by_cases h1 : y.2.2 = 0
      · simp only [if_pos h1]
        refine (took_ev y.2.1 t2 (by omega) 128 (by omega)).bind ?_
        obtain ⟨v1, v2, v3⟩ := took_ok y.2.1 t2 128
        generalize tookL y.2.1 128 = z at *
        by_cases h2 : z.2.2 = 0
        · simp only [if_pos h2, if_pos (show acc.length < 4398046511104 by omega)]
          exact RTake_l0 b n hn hs d (i + 1) _ _ (by omega) (by rw [List.length_append, hai]; rfl) (sm_more hsm (by omega) t3 v3) v2 (by omega)
        · simp only [if_neg h2]
          unfold takeEnd
          simp only [if_neg h2]
          exact Ev.now _
      · simp only [if_neg h1]
        unfold takeEnd
        simp only [if_neg h1]
        exact Ev.now _
theorem set_mid (acc R : List Lab) (z y : Lab) (i : Nat) (h : acc.length = i) : (acc ++ z :: R).set i y = acc ++ y :: R := by
  subst h
  rw [List.set_append_right _ _ (Nat.le_refl _), Nat.sub_self]
  rfl
theorem get_mid (acc R : List Lab) (z y : Lab) (i : Nat) (h : acc.length = i) : (acc ++ z :: R).getD i y = z := by
  subst h
  rw [List.getD_eq_getElem?_getD, List.getElem?_append_right (Nat.le_refl _), Nat.sub_self]
  rfl
theorem Take_l0 (b : List Int) (n : Nat) (hn : n ≤ 16) (hb : Byts b) (hs : b.length ≤ 1000000000) : ∀ (d i : Nat) (acc : List Lab) (a : Nat), i + d = n → acc.length = i → Sm acc → a ≤ b.length →
    Ev (fun k => labels_Take.l0 k b (a : Int) (acc ++ List.replicate d z44) (n : Int) (i : Int)) (takeEnd b (takesL d (b.drop a) acc))
  | d, i, acc, a, hd, hai, hsm, ha => by
    refine Ev.step (f := _) (fun k => by simp only [labels_Take.l0]; rfl) ?_
    cases d with
    | zero =>
      have e1 : ¬ (i : Int) < (n : Int) := by omega
      simp only [if_neg e1, List.replicate_zero, List.append_nil]
      refine (Right_ev acc hsm).1.bind ?_
      unfold takesL takeEnd
      simp only [if_true]
      rw [List.length_drop, show b.length - (b.length - a) = a by omega]
      by_cases h : rightB acc = 0
      · simp only [if_pos h]; exact Ev.now _
      · simp only [if_neg h]; exact Ev.now _
    | succ d =>
      have e1 : (i : Int) < (n : Int) := by omega
      have e2 : (0 : Int) ≤ (i : Int) := by omega
      have e3 : (i : Int) < ((acc ++ z44 :: List.replicate d z44).length : Int) := by rw [List.length_append, List.length_cons]; omega
      rw [List.replicate_succ]
      simp only [if_pos e1, w1 i (by omega)]
      refine (text_ev b hb hs a ha 64 (by omega)).bind ?_
      obtain ⟨t1, t2, t3⟩ := took_ok (b.drop a) (byt_drop hb a) 64
      have hdl : (b.drop a).length = b.length - a := List.length_drop ..
      have hrest : (tookL (b.drop a) 64).2.2 = 0 → b.drop (b.length - (tookL (b.drop a) 64).2.1.length) = (tookL (b.drop a) 64).2.1 := tookL_rest b hb a ha 64
      unfold takesL
      simp only [if_pos e2, if_pos e3, rdn, Int.toNat_natCast, Option.bind_some, set_mid acc _ _ _ i hai, get_mid acc _ _ _ i hai]
      generalize tookL (b.drop a) 64 = y at *
      by_cases h1 : y.2.2 = 0
      · simp only [if_pos h1]
        have hr := hrest h1
        obtain ⟨a', ha'⟩ : ∃ a', a' = b.length - y.2.1.length := ⟨_, rfl⟩
        rw [← ha'] at hr ⊢
        refine (text_ev b hb hs a' (by omega) 128 (by omega)).bind ?_
        obtain ⟨v1, v2, v3⟩ := took_ok (b.drop a') (byt_drop hb a') 128
        have hrest2 : (tookL (b.drop a') 128).2.2 = 0 → b.drop (b.length - (tookL (b.drop a') 128).2.1.length) = (tookL (b.drop a') 128).2.1 := tookL_rest b hb a' (by omega) 128
        rw [hr] at v1 v2 v3 hrest2 ⊢
        generalize tookL y.2.1 128 = z at *
        by_cases h2 : z.2.2 = 0
        · simp only [if_pos h2]
          have ih := Take_l0 b n hn hb hs d (i + 1) (acc ++ [⟨y.1, z.1⟩]) (b.length - z.2.1.length) (by omega) (by rw [List.length_append, hai]; rfl) (sm_more hsm (by omega) t3 v3) (by omega)
          rw [hrest2 h2, List.append_assoc] at ih
          exact ih
        · simp only [if_neg h2]
          unfold takeEnd
          simp only [if_neg h2]
          exact Ev.now _
      · simp only [if_neg h1]
        unfold takeEnd
        simp only [if_neg h1]
        exact Ev.now _
theorem Take_ev (b : List Int) (hb : Byts b) (hs : b.length ≤ 1000000000) : Ev (fun k => labels_Take.f k b) (takeB b) ∧ Ev (fun k => manometerref05_Take.f k b) (takeB b) := by
  obtain ⟨u1, u2⟩ := Uvarint_ev b hb (by omega)
  have hnil : Sm [] := ⟨by simp, fun x hx => by simp at hx⟩
  unfold labels_Take.f manometerref05_Take.f takeB
  rcases uget_cases b hb with ⟨n, hu, hk, _, hn⟩ | ⟨e, he, hu⟩
  · rw [hu] at u1 u2 ⊢
    simp only [if_true, Int.toNat_natCast]
    by_cases h : (n : Int) > 16
    · simp only [if_pos h]
      constructor
      · refine u1.bind ?_
        simp only [if_true, if_pos h]
        exact Ev.now _
      · refine u2.bind ?_
        simp only [if_true, if_pos h]
        exact Ev.now _
    · simp only [if_neg h]
      have e1 : wrap64 (n : Int) = (n : Int) := w64 (by omega) (by omega)
      constructor
      · refine u1.bind ?_
        simp only [if_true, if_neg h, if_pos (show (0 : Int) ≤ (n : Int) by omega), Int.toNat_natCast, if_pos (show n ≤ 8796093022208 by omega), Option.bind_some, List.length_replicate]
        have := Take_l0 b n (by omega) hb hs n 0 [] (uv n).length (by omega) rfl hnil hk
        simpa using this
      · refine u2.bind ?_
        simp only [if_true, if_neg h, if_pos (show (0 : Int) ≤ ((uv n).length : Int) by omega), if_pos (show ((uv n).length : Int) ≤ (b.length : Int) by omega), Int.toNat_natCast, e1]
        exact RTake_l0 b n (by omega) hs n 0 [] (b.drop (uv n).length) (by omega) rfl hnil (byt_drop hb _) (by rw [List.length_drop]; omega)
  · rw [hu] at u1 u2 ⊢
    simp only [if_neg he]
    constructor
    · refine u1.bind ?_
      simp only [if_neg he]
      exact Ev.now _
    · refine u2.bind ?_
      simp only [if_neg he]
      exact Ev.now _
theorem putL_len (l : List Lab) (hs : Sm l) : (putL l).length ≤ 100000000000 := by
  unfold putL
  have hu := uv_len10 l.length (by have := hs.1; omega)
  have : ∀ m : List Lab, (∀ x ∈ m, x.f0.size ≤ 100000 ∧ x.f1.size ≤ 100000) → (m.flatMap labL).length ≤ 200020 * m.length := by
    intro m
    induction m with
    | nil => intro _; simp
    | cons x m ih =>
      intro h
      rw [List.flatMap_cons, List.length_append, List.length_cons]
      have h1 := ih (fun y hy => h y (by simp [hy]))
      have h2 := labL_len x (h x (by simp)).1 (h x (by simp)).2
      omega
  have h1 := this l hs.2
  have h2 := hs.1
  rw [List.length_append, Bq.ints_length]
  omega
end Go.Proofs.YtdhmabofncbohaaDoor.Pu
end
section
namespace Go.Proofs.YtdhmabofncbohaaDoor.PLC
open Go.RowKit Go.Proofs.YtdhmabofncbohaaDoorW.PrintWords Go.Proofs.YtdhmabofncbohaaDoorW.PrintLast Go.Proofs.YtdhmabofncbohaaDoorW.PrintMore
attribute [local go_sem] max2_int min2_int max_two min_two max_three min_three max_four min_four
set_option linter.unusedVariables false
set_option linter.unusedSimpArgs false
end Go.Proofs.YtdhmabofncbohaaDoor.PLC
end
section
namespace Go.Proofs.YtdhmabofncbohaaDoor.PLC
open Go.RowKit Go.Proofs.YtdhmabofncbohaaDoorW.PrintWords Go.Proofs.YtdhmabofncbohaaDoorW.PrintLast Go.Proofs.YtdhmabofncbohaaDoorW.PrintMore
attribute [local go_sem] max2_int min2_int max_two min_two max_three min_three max_four min_four
set_option linter.unusedVariables false
set_option linter.unusedSimpArgs false
end Go.Proofs.YtdhmabofncbohaaDoor.PLC
end
section
namespace Go.Proofs.YtdhmabofncbohaaDoor.PLC
open Go.RowKit Go.Proofs.YtdhmabofncbohaaDoorW.PrintWords Go.Proofs.YtdhmabofncbohaaDoorW.PrintLast Go.Proofs.YtdhmabofncbohaaDoorW.PrintMore
attribute [local go_sem] max2_int min2_int max_two min_two max_three min_three max_four min_four
set_option linter.unusedVariables false
set_option linter.unusedSimpArgs false
end Go.Proofs.YtdhmabofncbohaaDoor.PLC
end
section
namespace Go.Proofs.YtdhmabofncbohaaDoor.PLC
open Go.RowKit Go.Proofs.YtdhmabofncbohaaDoorW.PrintWords Go.Proofs.YtdhmabofncbohaaDoorW.PrintLast Go.Proofs.YtdhmabofncbohaaDoorW.PrintMore
attribute [local go_sem] max2_int min2_int max_two min_two max_three min_three max_four min_four
set_option linter.unusedVariables false
set_option linter.unusedSimpArgs false
end Go.Proofs.YtdhmabofncbohaaDoor.PLC
end
section
namespace Go.Proofs.YtdhmabofncbohaaDoor.PLC
open Go.RowKit Go.Proofs.YtdhmabofncbohaaDoorW.PrintWords Go.Proofs.YtdhmabofncbohaaDoorW.PrintLast Go.Proofs.YtdhmabofncbohaaDoorW.PrintMore
attribute [local go_sem] max2_int min2_int max_two min_two max_three min_three max_four min_four
set_option linter.unusedVariables false
set_option linter.unusedSimpArgs false
attribute [local go_sem high] eqA44
end Go.Proofs.YtdhmabofncbohaaDoor.PLC
end
section
namespace Go.Proofs.YtdhmabofncbohaaDoor.Pu
open Go Go.RowKit Go.Proofs.YtdhmabofncbohaaDoor Go.Proofs.YtdhmabofncbohaaDoor.PLC Go.Proofs.YtdhmabofncbohaaDoorW.PrintWords Go.Proofs.YtdhmabofncbohaaDoorW.PrintLast Go.Proofs.YtdhmabofncbohaaDoorW.PrintMore
set_option linter.unusedVariables false
set_option linter.unusedSimpArgs false
abbrev Up (l : List Lab) : Prop := l.Pairwise (fun a b => lt a.f0 b.f0)
def RightP (l : List Lab) : Prop := (∀ x ∈ l, wrongB false x = 0) ∧ Up l
theorem nle (x q : Str) : (Op.bytesLess x q || decide (x = q)) = true ↔ ¬ Op.bytesLess q x = true := by
  constructor
  · intro h h'
    rw [Bool.or_eq_true] at h
    rcases h with h | h
    · rw [less_asymm h] at h'; cases h'
    · rw [of_decide_eq_true h, less_irrefl] at h'; cases h'
  · intro h
    by_cases h1 : Op.bytesLess x q = true
    · rw [h1]; rfl
    · have : x = q := less_total (by simpa using h1) (by simpa using h)
      simp [this]
theorem rgt_some : ∀ (l : List Lab) (q : Str), rgt (some q) l = 0 ↔ RightP l ∧ ∀ x ∈ l, Op.bytesLess q (B x.f0) = true
  | [], q => by simp [rgt, RightP]
  | x :: l, q => by
    unfold rgt
    by_cases hw : wrongB false x = 0
    · simp only [if_pos hw]
      by_cases hc : Op.bytesLess q (B x.f0) = true
      · have h1 : ¬ (Op.bytesLess (B x.f0) q || decide (B x.f0 = q)) = true := fun h => (nle _ _).1 h hc
        rw [if_neg h1, rgt_some l (B x.f0)]
        unfold RightP
        constructor
        · rintro ⟨⟨a, b⟩, c⟩
          refine ⟨⟨fun z hz => ?_, List.pairwise_cons.2 ⟨c, b⟩⟩, fun z hz => ?_⟩
          · rcases List.mem_cons.1 hz with rfl | hz
            · exact hw
            · exact a z hz
          · rcases List.mem_cons.1 hz with rfl | hz
            · exact hc
            · exact less_trans hc (c z hz)
        · rintro ⟨⟨a, b⟩, c⟩
          exact ⟨⟨fun z hz => a z (List.mem_cons_of_mem _ hz), (List.pairwise_cons.1 b).2⟩, (List.pairwise_cons.1 b).1⟩
      · rw [if_pos ((nle _ _).2 hc)]
        constructor
        · intro h; cases h
        · rintro ⟨_, c⟩
          exact absurd (c x List.mem_cons_self) hc
    · simp only [if_neg hw]
      constructor
      · intro h; exact absurd h hw
      · rintro ⟨⟨a, _⟩, _⟩
        exact absurd (a x List.mem_cons_self) hw
theorem rgt_none : ∀ (l : List Lab), rgt none l = 0 ↔ RightP l
  | [] => by simp [rgt, RightP]
  | x :: l => by
    unfold rgt
    by_cases hw : wrongB false x = 0
    · simp only [if_pos hw, Bool.false_eq_true, if_false]
      rw [rgt_some l (B x.f0)]
      unfold RightP
      constructor
      · rintro ⟨⟨a, b⟩, c⟩
        refine ⟨fun z hz => ?_, List.pairwise_cons.2 ⟨c, b⟩⟩
        rcases List.mem_cons.1 hz with rfl | hz
        · exact hw
        · exact a z hz
      · rintro ⟨a, b⟩
        exact ⟨⟨fun z hz => a z (List.mem_cons_of_mem _ hz), (List.pairwise_cons.1 b).2⟩, (List.pairwise_cons.1 b).1⟩
    · simp only [if_neg hw]
      constructor
      · intro h; exact absurd h hw
      · rintro ⟨a, _⟩
        exact absurd (a x List.mem_cons_self) hw
theorem right_zero (l : List Lab) : rightB l = 0 ↔ l.length ≤ 16 ∧ RightP l := by
  unfold rightB
  by_cases h : l.length ≤ 16
  · rw [if_pos h, rgt_none]
    exact ⟨fun h' => ⟨h, h'⟩, fun h' => h'.2⟩
  · rw [if_neg h]
    exact ⟨fun h1 => (by cases h1), fun h1 => absurd h1.1 h⟩
end Go.Proofs.YtdhmabofncbohaaDoor.Pu
end
section
namespace Go.Proofs.YtdhmabofncbohaaDoor.Pu
open Go Go.RowKit Go.Proofs.YtdhmabofncbohaaDoor Go.Proofs.YtdhmabofncbohaaDoor.PLC Go.Proofs.YtdhmabofncbohaaDoorW.PrintWords Go.Proofs.YtdhmabofncbohaaDoorW.PrintLast Go.Proofs.YtdhmabofncbohaaDoorW.PrintMore Bq
set_option linter.unusedVariables false
set_option linter.unusedSimpArgs false
theorem uget_sized (s : ByteArray) (rest : List Int) (hs : s.size < 18446744073709551616) : uget (sizedL s ++ rest) = ((s.size : Int), ((uv s.size).length : Int), 0) := by
  unfold sizedL
  rw [List.append_assoc]
  exact uget_uv s.size hs _
theorem took_sized (s : ByteArray) (rest : List Int) (most : Nat) (hs : s.size ≤ most) (hm : most ≤ 1000000) : tookL (sizedL s ++ rest) most = (s, rest, 0) := by
  have hu := uget_sized s rest (by omega)
  have hl : (sizedL s ++ rest).length = (uv s.size).length + s.size + rest.length := by
    unfold sizedL
    rw [List.length_append, List.length_append, Bq.ints_length, bytesOf_length]
  rw [took_num hu (by rw [hl]; omega), if_neg (by omega), hl, if_neg (by omega)]
  have e1 : (sizedL s ++ rest).drop (uv s.size).length = bytesOf s ++ rest := by
    unfold sizedL
    rw [List.append_assoc]
    have := List.drop_left (l₁ := Bq.ints (uv s.size)) (l₂ := bytesOf s ++ rest)
    rwa [Bq.ints_length] at this
  have e2 : (bytesOf s ++ rest).take s.size = bytesOf s := by
    have := List.take_left (l₁ := bytesOf s) (l₂ := rest)
    rwa [bytesOf_length] at this
  have e3 : (bytesOf s ++ rest).drop s.size = rest := by
    have := List.drop_left (l₁ := bytesOf s) (l₂ := rest)
    rwa [bytesOf_length] at this
  rw [← List.drop_drop, e1, e2, e3, nums_of]
theorem took_back (r : List Int) (hb : Byts r) (most : Nat) (h : (tookL r most).2.2 = 0) : r = sizedL (tookL r most).1 ++ (tookL r most).2.1 := by
  rcases uget_cases r hb with ⟨n, hu, hk, hp, hn⟩ | ⟨e, he, hu⟩
  · rw [took_num hu hk] at h ⊢
    split at h
    · exact absurd h (by decide)
    · rename_i h1
      rw [if_neg h1]
      split at h
      · exact absurd h (by decide)
      · rename_i h2
        rw [if_neg h2]
        show r = sizedL (strOfNums ((r.drop (uv n).length).take n)) ++ r.drop ((uv n).length + n)
        have hbt : Byts ((r.drop (uv n).length).take n) := byt_take (byt_drop hb _) _
        have hsz : (strOfNums ((r.drop (uv n).length).take n)).size = n := by
          rw [nums_size hbt, List.length_take, List.length_drop]
          omega
        unfold sizedL
        rw [hsz, of_nums hbt, hp, List.append_assoc, ← List.drop_drop, List.take_append_drop, List.take_append_drop]
  · rw [took_err he hu] at h
    exact absurd h he
def Sh (l : List Lab) : Prop := ∀ x ∈ l, x.f0.size ≤ 64 ∧ x.f1.size ≤ 128
theorem takes_put : ∀ (l : List Lab) (rest : List Int) (acc : List Lab), Sh l → takesL l.length (l.flatMap labL ++ rest) acc = (acc ++ l, rest, 0)
  | [], rest, acc, _ => by simp [takesL]
  | x :: l, rest, acc, h => by
    obtain ⟨h0, h1⟩ := h x (by simp)
    have e : (x :: l).flatMap labL ++ rest = sizedL x.f0 ++ (sizedL x.f1 ++ (l.flatMap labL ++ rest)) := by
      rw [List.flatMap_cons]
      unfold labL
      simp only [List.append_assoc]
    rw [e, List.length_cons]
    unfold takesL
    rw [took_sized x.f0 _ 64 h0 (by omega)]
    simp only [if_true]
    rw [took_sized x.f1 _ 128 h1 (by omega)]
    simp only [if_true]
    rw [takes_put l rest _ (fun y hy => h y (by simp [hy])), List.append_assoc]
    rfl
theorem right_short {l : List Lab} (h : rightB l = 0) : l.length ≤ 16 ∧ Sh l := by
  obtain ⟨h1, h2, _⟩ := (right_zero l).1 h
  refine ⟨h1, fun x hx => ?_⟩
  have h3 := h2 x hx
  unfold wrongB at h3
  split at h3
  · rename_i hn
    split at h3
    · rename_i hv
      have h4 := (namedB_letters hn).2.1
      unfold valuedB at hv
      simp only [Bool.and_eq_true, decide_eq_true_eq] at hv
      rw [B_length] at h4 hv
      exact ⟨h4, hv.1⟩
    · exact absurd h3 (by decide)
  · exact absurd h3 (by decide)
theorem take_put (l : List Lab) (rest : List Int) (h : rightB l = 0) : takeB (putL l ++ rest) = (l, ((putL l).length : Int), 0) := by
  obtain ⟨h1, h2⟩ := right_short h
  have hu : uget (putL l ++ rest) = ((l.length : Int), ((uv l.length).length : Int), 0) := by
    unfold putL
    rw [List.append_assoc]
    exact uget_uv _ (by omega) _
  have e : (putL l ++ rest).drop (uv l.length).length = l.flatMap labL ++ rest := by
    unfold putL
    rw [List.append_assoc]
    have := List.drop_left (l₁ := Bq.ints (uv l.length)) (l₂ := l.flatMap labL ++ rest)
    rwa [Bq.ints_length] at this
  unfold takeB
  rw [hu]
  simp only [if_true, if_neg (show ¬ (l.length : Int) > 16 by omega), Int.toNat_natCast]
  rw [e, takes_put l rest [] h2]
  unfold takeEnd
  simp only [if_true, List.nil_append, h]
  rw [List.length_append, Nat.add_sub_cancel]
theorem takes_back : ∀ (d : Nat) (r : List Int) (acc : List Lab), Byts r → (takesL d r acc).2.2 = 0 → ∃ ls : List Lab, ls.length = d ∧ (takesL d r acc).1 = acc ++ ls ∧ r = ls.flatMap labL ++ (takesL d r acc).2.1
  | 0, r, acc, _, _ => ⟨[], rfl, by simp [takesL], by simp [takesL]⟩
  | d + 1, r, acc, hb, h => by
    obtain ⟨t1, t2, t3⟩ := took_ok r hb 64
    unfold takesL at h ⊢
    by_cases h1 : (tookL r 64).2.2 = 0
    · rw [if_pos h1] at h ⊢
      have b1 := took_back r hb 64 h1
      generalize tookL r 64 = y at *
      obtain ⟨v1, v2, v3⟩ := took_ok y.2.1 t2 128
      by_cases h2 : (tookL y.2.1 128).2.2 = 0
      · rw [if_pos h2] at h ⊢
        have b2 := took_back y.2.1 t2 128 h2
        generalize tookL y.2.1 128 = z at *
        obtain ⟨ls, l1, l2, l3⟩ := takes_back d z.2.1 (acc ++ [⟨y.1, z.1⟩]) v2 h
        refine ⟨⟨y.1, z.1⟩ :: ls, by rw [List.length_cons, l1], by rw [l2, List.append_assoc]; rfl, ?_⟩
        rw [List.flatMap_cons]
        show r = (sizedL y.1 ++ sizedL z.1) ++ ls.flatMap labL ++ _
        rw [List.append_assoc, List.append_assoc, ← l3, ← b2, ← b1]
      · rw [if_neg h2] at h
        exact absurd h h2
    · rw [if_neg h1] at h
      exact absurd h h1
theorem take_back (b : List Int) (hb : Byts b) (h : (takeB b).2.2 = 0) : ∃ n : Nat, (takeB b).2.1 = (n : Int) ∧ n ≤ b.length ∧ putB (takeB b).1 = (b.take n, 0) := by
  rcases uget_cases b hb with ⟨n, hu, hk, hp, hn⟩ | ⟨e, he, hu⟩
  · unfold takeB at h ⊢
    rw [hu] at h ⊢
    simp only [if_true, Int.toNat_natCast] at h ⊢
    by_cases h16 : (n : Int) > 16
    · rw [if_pos h16] at h
      exact absurd h (by decide)
    · rw [if_neg h16] at h ⊢
      obtain ⟨z, hz⟩ : ∃ z, z = takesL n (b.drop (uv n).length) [] := ⟨_, rfl⟩
      rw [← hz] at h ⊢
      unfold takeEnd at h ⊢
      by_cases h1 : z.2.2 = 0
      · rw [if_pos h1] at h ⊢
        by_cases h2 : rightB z.1 = 0
        · rw [if_pos h2]
          obtain ⟨ls, l1, l2, l3⟩ := takes_back n (b.drop (uv n).length) [] (byt_drop hb _) (by rw [← hz]; exact h1)
          rw [← hz, List.nil_append] at l2
          rw [← hz] at l3
          have hbe : b = putL z.1 ++ z.2.1 := by
            unfold putL
            rw [l2, l1, hp, List.append_assoc, ← l3, List.take_append_drop]
          have hlen : b.length = (putL z.1).length + z.2.1.length := by rw [← List.length_append, ← hbe]
          refine ⟨b.length - z.2.1.length, rfl, by omega, ?_⟩
          unfold putB
          rw [if_pos h2, show b.length - z.2.1.length = (putL z.1).length by omega]
          have e : b.take (putL z.1).length = putL z.1 := by
            conv => lhs; rw [hbe]
            exact List.take_left
          rw [e]
        · rw [if_neg h2] at h
          exact absurd h h2
      · rw [if_neg h1] at h
        exact absurd h h1
  · unfold takeB at h
    rw [hu] at h
    simp only [if_neg he] at h
    exact absurd h he
theorem took_cut (s : ByteArray) (rest : List Int) (most c : Nat) (hs : s.size ≤ most) (hm : most ≤ 1000000) (hc : c < (sizedL s).length) : (tookL ((sizedL s ++ rest).take c) most).2.2 = 6 := by
  have hsl : (sizedL s).length = (uv s.size).length + s.size := by
    unfold sizedL
    rw [List.length_append, Bq.ints_length, bytesOf_length]
  rw [List.take_append_of_le_length (by omega)]
  have hb : Byts ((sizedL s).take c) := byt_take (by unfold sizedL; exact byt_app (byt_uv _) (byt_of _)) c
  by_cases h : c < (uv s.size).length
  · have e : (sizedL s).take c = (Bq.ints (uv s.size)).take c := by
      unfold sizedL
      rw [List.take_append_of_le_length (by rw [Bq.ints_length]; omega)]
    have h6 := uget_cut s.size (by omega) c h
    rw [e] at hb ⊢
    rcases uget_cases _ hb with ⟨n, hu, _⟩ | ⟨e', he, hu⟩
    · rw [hu] at h6
      exact absurd (show (0 : Int) = 6 from h6) (by decide)
    · rw [hu] at h6
      rw [took_err he hu]
      exact h6
  · have e : (sizedL s).take c = Bq.ints (uv s.size) ++ (bytesOf s).take (c - (uv s.size).length) := by
      unfold sizedL
      rw [List.take_append, List.take_of_length_le (by rw [Bq.ints_length]; omega), Bq.ints_length]
    have hu : uget ((sizedL s).take c) = ((s.size : Int), ((uv s.size).length : Int), 0) := by
      rw [e]
      exact uget_uv s.size (by omega) _
    have hl : ((sizedL s).take c).length = c := by rw [List.length_take]; omega
    rw [took_num hu (by rw [hl]; omega), if_neg (by omega), hl, if_pos (by omega)]
theorem takes_cut : ∀ (l : List Lab) (acc : List Lab) (c : Nat), Sh l → c < (l.flatMap labL).length → (takesL l.length ((l.flatMap labL).take c) acc).2.2 = 6
  | [], acc, c, _, hc => by simp at hc
  | x :: l, acc, c, h, hc => by
    obtain ⟨h0, h1⟩ := h x (by simp)
    rw [List.flatMap_cons, List.length_append] at hc
    have hll : (labL x).length = (sizedL x.f0).length + (sizedL x.f1).length := by unfold labL; rw [List.length_append]
    have e : (x :: l).flatMap labL = sizedL x.f0 ++ (sizedL x.f1 ++ l.flatMap labL) := by
      rw [List.flatMap_cons]
      unfold labL
      simp only [List.append_assoc]
    rw [e, List.length_cons]
    unfold takesL
    by_cases hc0 : c < (sizedL x.f0).length
    · have h6 := took_cut x.f0 (sizedL x.f1 ++ l.flatMap labL) 64 c h0 (by omega) hc0
      rw [if_neg (by rw [h6]; decide)]
      exact h6
    · have e1 : (sizedL x.f0 ++ (sizedL x.f1 ++ l.flatMap labL)).take c = sizedL x.f0 ++ (sizedL x.f1 ++ l.flatMap labL).take (c - (sizedL x.f0).length) := by
        rw [List.take_append, List.take_of_length_le (by omega)]
      rw [e1, took_sized x.f0 _ 64 h0 (by omega)]
      simp only [if_true]
      by_cases hc1 : c - (sizedL x.f0).length < (sizedL x.f1).length
      · have h6 := took_cut x.f1 (l.flatMap labL) 128 _ h1 (by omega) hc1
        rw [if_neg (by rw [h6]; decide)]
        exact h6
      · have e2 : (sizedL x.f1 ++ l.flatMap labL).take (c - (sizedL x.f0).length) = sizedL x.f1 ++ (l.flatMap labL).take (c - (sizedL x.f0).length - (sizedL x.f1).length) := by
          rw [List.take_append, List.take_of_length_le (by omega)]
        rw [e2, took_sized x.f1 _ 128 h1 (by omega)]
        simp only [if_true]
        exact takes_cut l _ _ (fun y hy => h y (by simp [hy])) (by omega)
theorem take_cut (l : List Lab) (c : Nat) (h : rightB l = 0) (hc : c < (putL l).length) : (takeB ((putL l).take c)).2.2 = 6 := by
  obtain ⟨h1, h2⟩ := right_short h
  have hpl : (putL l).length = (uv l.length).length + (l.flatMap labL).length := by unfold putL; rw [List.length_append, Bq.ints_length]
  by_cases hc0 : c < (uv l.length).length
  · have e : (putL l).take c = (Bq.ints (uv l.length)).take c := by
      unfold putL
      rw [List.take_append_of_le_length (by rw [Bq.ints_length]; omega)]
    have h6 := uget_cut l.length (by omega) c hc0
    have hb : Byts ((Bq.ints (uv l.length)).take c) := byt_take (byt_uv _) c
    rw [e]
    unfold takeB
    rcases uget_cases _ hb with ⟨n, hu, _⟩ | ⟨e', he, hu⟩
    · rw [hu] at h6
      exact absurd (show (0 : Int) = 6 from h6) (by decide)
    · rw [hu] at h6 ⊢
      rw [if_neg he]
      exact h6
  · have e : (putL l).take c = Bq.ints (uv l.length) ++ (l.flatMap labL).take (c - (uv l.length).length) := by
      unfold putL
      rw [List.take_append, List.take_of_length_le (by rw [Bq.ints_length]; omega), Bq.ints_length]
    have hu : uget ((putL l).take c) = ((l.length : Int), ((uv l.length).length : Int), 0) := by
      rw [e]
      exact uget_uv _ (by omega) _
    have e2 : ((putL l).take c).drop (uv l.length).length = (l.flatMap labL).take (c - (uv l.length).length) := by
      rw [e]
      have := List.drop_left (l₁ := Bq.ints (uv l.length)) (l₂ := (l.flatMap labL).take (c - (uv l.length).length))
      rwa [Bq.ints_length] at this
    unfold takeB
    rw [hu]
    simp only [if_true, if_neg (show ¬ (l.length : Int) > 16 by omega), Int.toNat_natCast]
    rw [e2]
    have h6 := takes_cut l [] _ h2 (show c - (uv l.length).length < (l.flatMap labL).length by omega)
    unfold takeEnd
    rw [if_neg (by rw [h6]; decide)]
    exact h6
theorem byt_sized (s : ByteArray) : Byts (sizedL s) := by unfold sizedL; exact byt_app (byt_uv _) (byt_of _)
theorem byt_labs : ∀ l : List Lab, Byts (l.flatMap labL)
  | [] => by simpa using byt_nil
  | x :: l => by
    rw [List.flatMap_cons]
    exact byt_app (by unfold labL; exact byt_app (byt_sized _) (byt_sized _)) (byt_labs l)
theorem byt_putL (l : List Lab) : Byts (putL l) := by unfold putL; exact byt_app (byt_uv _) (byt_labs l)
theorem takes_sm : ∀ (d : Nat) (r : List Int) (acc : List Lab), Byts r → Sm acc → acc.length + d ≤ 100000 → Sm (takesL d r acc).1
  | 0, r, acc, _, h, _ => h
  | d + 1, r, acc, hb, h, hl => by
    obtain ⟨t1, t2, t3⟩ := took_ok r hb 64
    obtain ⟨v1, v2, v3⟩ := took_ok (tookL r 64).2.1 t2 128
    unfold takesL
    split
    · split
      · exact takes_sm d _ _ v2 (sm_more h (by omega) t3 v3) (by rw [List.length_append, List.length_singleton]; omega)
      · exact ⟨by simp, fun x hx => by simp at hx⟩
    · exact ⟨by simp, fun x hx => by simp at hx⟩
theorem takeB_sm (b : List Int) (hb : Byts b) : Sm (takeB b).1 := by
  have hnil : Sm [] := ⟨by simp, fun x hx => by simp at hx⟩
  unfold takeB
  split
  · split
    · exact hnil
    · rename_i h16
      unfold takeEnd
      split
      · split
        · exact takes_sm _ _ _ (byt_drop hb _) hnil (by simp; omega)
        · exact hnil
      · exact hnil
  · exact hnil
theorem putL_few {l : List Lab} (hf : fewB l = true) (hr : rightB l = 0) : (putL l).length ≤ 10000 := by
  obtain ⟨h1, h2⟩ := right_short hr
  have hu := uv_len10 l.length (by omega)
  have key : ∀ m : List Lab, Sh m → (m.flatMap labL).length ≤ 212 * m.length := by
    intro m
    induction m with
    | nil => intro _; simp
    | cons x m ih =>
      intro h
      rw [List.flatMap_cons, List.length_append, List.length_cons]
      have h3 := ih (fun y hy => h y (by simp [hy]))
      have h4 := h x (by simp)
      have h5 := sizedL_len x.f0 (by omega)
      have h6 := sizedL_len x.f1 (by omega)
      have h7 : (labL x).length = (sizedL x.f0).length + (sizedL x.f1).length := by unfold labL; rw [List.length_append]
      omega
  have h3 := key l h2
  unfold putL
  rw [List.length_append, Bq.ints_length]
  omega
end Go.Proofs.YtdhmabofncbohaaDoor.Pu
end
section
namespace Go.Proofs.YtdhmabofncbohaaDoor
open Go Go.RowKit Go.Proofs.YtdhmabofncbohaaDoor.PLC Go.Proofs.YtdhmabofncbohaaDoorW.PrintWords Go.Proofs.YtdhmabofncbohaaDoorW.PrintLast Go.Proofs.YtdhmabofncbohaaDoorW.PrintMore
set_option linter.unusedVariables false
set_option linter.unusedSimpArgs false
theorem lower_w {B B' : Nat} {w w' : World} (h : Below B w w') (hle : B' ≤ B) : Below B' w w' := ⟨h.os, h.tape, h.output, h.size, fun k hk => h.block k (by omega)⟩
theorem live_w (w : World) (hT : Tab w) : Calls Tryd.prog 15 #[] w fun e w' => e = .returned (.bool true) ∧ Below w.heap.size w w' := by
  obtain ⟨k, h⟩ := Pu.live_ev.rounds
  exact manometerlaw05_live.calls k true w ⟨hT⟩ h
theorem few_w (w : World) (A : Option Addr) (c : Nat) (l : List Pu.Lab) (hC : k44.C w A l.length l) (hc : l.length ≤ c) :
    Calls Tryd.prog 24 #[.slice A l.length c] w fun e w' => e = .returned (.bool (Pu.fewB l)) ∧ Below w.heap.size w w' := by
  obtain ⟨k, h⟩ := (Pu.few_ev l).rounds
  exact manometerlaw05_few.calls k A c l _ w hC hc h
theorem take_w (w : World) (A : Option Addr) (c : Nat) (xs : List Int) (hT : Tab w) (hC : (Kd.int .u8).C w A xs.length xs) (hc : xs.length ≤ c) (hb : Byts xs) (hs : xs.length ≤ 1000000000) :
    Calls Tryd.prog 51 #[.slice A xs.length c] w fun e w' => ∃ (A' : Option Addr) (c' : Nat), e = .returned (.tuple #[.slice A' (Pu.takeB xs).1.length c', .int .i64 (Pu.takeB xs).2.1, .int .i64 (Pu.takeB xs).2.2]) ∧ (Pu.takeB xs).1.length ≤ c' ∧ k44.C w' A' (Pu.takeB xs).1.length (Pu.takeB xs).1 ∧ Below w.heap.size w w' := by
  obtain ⟨k, h⟩ := (Pu.Take_ev xs hb hs).1.rounds
  refine (labels_Take.calls k A c xs _ _ _ w ⟨hT⟩ hC hc h).mono ?_
  rintro e w' ⟨v, rfl, hR, hB⟩
  obtain ⟨A', c', rfl⟩ := Kd.R_slice hR
  exact ⟨A', c', rfl, (Kd.R_reads' hR).2.1, (Kd.R_reads' hR).2.2, hB⟩
theorem put_w (w : World) (A : Option Addr) (c : Nat) (l : List Pu.Lab) (hT : Tab w) (hC : k44.C w A l.length l) (hc : l.length ≤ c) (hs : Pu.Sm l) :
    Calls Tryd.prog 49 #[.slice A l.length c] w fun e w' => ∃ (A' : Option Addr) (c' : Nat), e = .returned (.tuple #[.slice A' (Pu.putB l).1.length c', .int .i64 (Pu.putB l).2]) ∧ (Pu.putB l).1.length ≤ c' ∧ (Kd.int .u8).C w' A' (Pu.putB l).1.length (Pu.putB l).1 ∧ Below w.heap.size w w' := by
  obtain ⟨k, h⟩ := (Pu.Put_ev l hs).1.rounds
  refine (labels_Put.calls k A c l _ _ w ⟨hT⟩ hC hc h).mono ?_
  rintro e w' ⟨v, rfl, hR, hB⟩
  obtain ⟨A', c', rfl⟩ := Kd.R_slice hR
  exact ⟨A', c', rfl, (Kd.R_reads' hR).2.1, (Kd.R_reads' hR).2.2, hB⟩
theorem right_w (w : World) (A : Option Addr) (c : Nat) (l : List Pu.Lab) (hT : Tab w) (hC : k44.C w A l.length l) (hc : l.length ≤ c) (hs : Pu.Sm l) :
    Calls Tryd.prog 36 #[.slice A l.length c] w fun e w' => e = .returned (.int .i64 (Pu.rightB l)) ∧ Below w.heap.size w w' := by
  obtain ⟨k, h⟩ := (Pu.Right_ev l hs).1.rounds
  exact labels_Right.calls k A c l _ w ⟨hT⟩ hC hc h
theorem same_w (w : World) (A B : Option Addr) (c d : Nat) (l m : List Pu.Lab) (hC : k44.C w A l.length l) (hc : l.length ≤ c) (hD : k44.C w B m.length m) (hd : m.length ≤ d) (hs : l.length ≤ 1000000000) :
    Calls Tryd.prog 30 #[.slice A l.length c, .slice B m.length d] w fun e w' => e = .returned (.bool (Pu.sameB l m)) ∧ Drawn0 w w' := by
  obtain ⟨k, h⟩ := (Pu.Same_ev l m (by omega)).1.rounds
  exact labels_Same.calls k A c l B d m _ w hC hc hD hd h
theorem equal_w (w : World) (A B : Option Addr) (c d : Nat) (xs ys : List Int) (hC : (Kd.int .u8).C w A xs.length xs) (hc : xs.length ≤ c) (hD : (Kd.int .u8).C w B ys.length ys) (hd : ys.length ≤ d) (hs : xs.length ≤ 1000000000000) :
    Calls Tryd.prog 53 #[.slice A xs.length c, .slice B ys.length d] w fun e w' => e = .returned (.bool (decide (xs = ys))) ∧ Drawn0 w w' := by
  obtain ⟨k, h⟩ := (Pu.Equal_ev xs ys hs).rounds
  exact manometerref01_Equal.calls k A c xs B d ys _ w hC hc hD hd h
abbrev Sl := Option Addr × Nat × List Int
def Sl.v (r : Sl) : Value := .slice r.1 r.2.2.length r.2.1
def Sl.In (w : World) (r : Sl) : Prop := (Kd.int .u8).C w r.1 r.2.2.length r.2.2 ∧ r.2.2.length ≤ r.2.1
theorem litN_C (w : World) (T : Nat) (rows : List Sl) (h : ∀ r ∈ rows, r.In w) (hn : rows.length ≤ 1000) :
    (Kd.slice 5 (Kd.int .u8)).C (w.alloc (.cells (rows.map Sl.v).toArray T)) (some ⟨w.heap.size, 0, none⟩) (rows.map (·.2.2)).length (rows.map (·.2.2)) := by
  have hb0 := below_alloc (Below.refl w.heap.size w) (.cells (rows.map Sl.v).toArray T)
  have hnw := blk_new w (.cells (rows.map Sl.v).toArray T)
  refine ⟨rfl, by rw [List.length_map]; omega, fun _ => ⟨_, rfl, fun j p hj => ?_⟩⟩
  rw [List.getElem?_map] at hj
  obtain ⟨r, hr, rfl⟩ := Option.map_eq_some_iff.1 hj
  have hm := h r (List.mem_of_getElem? hr)
  refine ⟨[r.v], rfl, ⟨r.1, r.2.1, rfl, hm.2, Kd.C_below hm.1 hb0⟩, fun i u hu => ?_⟩
  rcases i with _ | i
  · injection hu with hu
    subst hu
    have e : (⟨w.heap.size, 0, none⟩ : Addr).add (j * (Kd.slice 5 (Kd.int .u8)).sz + 0) = ⟨w.heap.size, j, none⟩ := by
      show (⟨w.heap.size, 0, none⟩ : Addr).add (j * 1 + 0) = _
      rw [Addr.add_mid]; simp
    rw [e]
    refine (blk_cell hnw j).trans ?_
    simp [hr]
  · cases hu
theorem join2_w (w : World) (A B : Option Addr) (ca cb : Nat) (xs ys : List Int) (hA : (Kd.int .u8).C w A xs.length xs) (hB : (Kd.int .u8).C w B ys.length ys) (ha : xs.length ≤ ca) (hb : ys.length ≤ cb) (hs : xs.length + ys.length ≤ 100000000000) :
    Calls Tryd.prog 54 #[.slice (some ⟨w.heap.size, 0, none⟩) 2 2] (w.alloc (.cells #[.slice A xs.length ca, .slice B ys.length cb] 53)) fun e w' => ∃ (A' : Option Addr) (c' : Nat), e = .returned (.slice A' (xs ++ ys).length c') ∧ (xs ++ ys).length ≤ c' ∧ (Kd.int .u8).C w' A' (xs ++ ys).length (xs ++ ys) ∧ Below w.heap.size w w' := by
  have hC := litN_C w 53 [(A, ca, xs), (B, cb, ys)] (fun r hr => by
    rcases List.mem_cons.1 hr with rfl | hr
    · exact ⟨hA, ha⟩
    · rw [List.mem_singleton.1 hr]
      exact ⟨hB, hb⟩) (by simp)
  obtain ⟨k, h⟩ := (Pu.Join_ev [xs, ys] (by simp) (by simp; omega)).rounds
  have ef : [xs, ys].flatten = xs ++ ys := by simp
  rw [ef] at h
  refine (manometerref01_Join.calls k _ 2 [xs, ys] _ _ hC (by simp) h).mono ?_
  rintro e w' ⟨v, rfl, hR, hb'⟩
  obtain ⟨A', c', rfl⟩ := Kd.R_slice hR
  have e1 : w.heap.size ≤ (w.alloc (.cells #[.slice A xs.length ca, .slice B ys.length cb] 53)).heap.size := by rw [World.size_alloc]; omega
  exact ⟨A', c', rfl, (Kd.R_reads' hR).2.1, (Kd.R_reads' hR).2.2, (below_alloc (Below.refl _ w) _).trans (lower_w hb' e1)⟩
theorem cut_w (A : Option Addr) (n c j : Nat) (hm : j ≤ n) (hc : n ≤ c) : ∀ W : World, (Instr.slice 53 (.slice A n c) none (some (.int .i64 (j : Int))) none).run Tryd.prog W = .ok (.slice A j c) W := by
  obtain ⟨i, hi, _⟩ := Option.map_eq_some_iff.1 (show (Tryd.prog.info? 5).map (fun i => (i.zero, i.size, i.bytes)) = some (some (.int .u8 0), 1, 1) by kernel_rfl)
  have h := cut_to (P := Tryd.prog) 53 5 .i64 Tryd.underlying53 hi A n c (j : Int) (by omega) (by omega) hc
  rw [Int.toNat_natCast] at h
  exact h
end Go.Proofs.YtdhmabofncbohaaDoor
end
