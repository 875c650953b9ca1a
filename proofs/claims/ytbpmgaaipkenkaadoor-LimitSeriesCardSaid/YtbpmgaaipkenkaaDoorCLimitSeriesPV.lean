import Derived.Test.YtbpmgaaipkenkaaDoorCLimitSeriesPU0
import Derived.Test.YtbpmgaaipkenkaaDoorCLimitSeriesPMSx2
import Derived.Test.YtbpmgaaipkenkaaDoorCLimitSeriesPMSx3
import Derived.Test.YtbpmgaaipkenkaaDoorCLimitSeriesPMSx4
import Derived.Test.YtbpmgaaipkenkaaDoorCLimitSeriesPMSx7
namespace Go.Proofs.YtbpmgaaipkenkaaDoor.Pv
open Go Go.RowKit Go.Proofs.YtbpmgaaipkenkaaDoor Go.Proofs.YtbpmgaaipkenkaaDoor.Pu Go.Proofs.YtbpmgaaipkenkaaDoor.PMS Go.Proofs.YtbpmgaaipkenkaaDoorW.PrintWords Go.Proofs.YtbpmgaaipkenkaaDoorW.PrintLast Go.Proofs.YtbpmgaaipkenkaaDoorW.PrintMore
set_option linter.unusedVariables false
set_option linter.unusedSimpArgs false
theorem Letter_f (c : Int) : manometerref05_Letter.f c = some (letB c) := by
  unfold manometerref05_Letter.f letB fstB
  repeat' split
  all_goals simp only [Option.some.injEq]
  all_goals (rw [Bool.eq_iff_iff]; simp; omega)
def resN (l : Str) (n : Nat) : Bool := (l.drop n).all (fun b => letB b.toNat) && (decide (1 ≤ l.length) && decide (l.length ≤ 64) && (decide ((l.getD 0 0).toNat < 48) || decide (57 < (l.getD 0 0).toNat)))
theorem resN_zero (l : Str) : resN l 0 = namedB l := by
  rw [Bool.eq_iff_iff]
  unfold resN
  rw [List.drop_zero]
  constructor
  · intro h
    simp only [Bool.and_eq_true, List.all_eq_true, decide_eq_true_eq, Bool.or_eq_true] at h
    obtain ⟨h1, ⟨h2, h3⟩, h4⟩ := h
    have hm : l.getD 0 0 ∈ l := by rw [List.getD_eq_getElem?_getD, List.getElem?_eq_getElem (by omega)]; exact List.getElem_mem _
    have h5 := h1 _ hm
    refine namedB_yes (by omega) h3 (fun i hi => h1 _ (by rw [List.getD_eq_getElem?_getD, List.getElem?_eq_getElem hi]; exact List.getElem_mem _)) ?_
    unfold letB at h5
    rcases Bool.or_eq_true _ _ ▸ h5 with h5 | h5
    · exact h5
    · simp only [Bool.and_eq_true, decide_eq_true_eq] at h5
      omega
  · intro h
    obtain ⟨h1, h2, h3, h4⟩ := namedB_letters h
    have hl := List.length_pos_iff.2 h1
    simp only [Bool.and_eq_true, List.all_eq_true, decide_eq_true_eq, Bool.or_eq_true]
    refine ⟨h3, ⟨by omega, h2⟩, ?_⟩
    unfold fstB at h4
    simp only [Bool.or_eq_true, Bool.and_eq_true, decide_eq_true_eq, beq_iff_eq] at h4
    omega
theorem Named_l0 (s : ByteArray) (hs : s.size ≤ 1000000000000) : ∀ (d n k : Nat), n + d = s.size → d < k → manometerref05_Named.l0 k s (s.size : Int) (n : Int) = some (resN (B s) n)
  | d, n, k, hd, hk => by
    have hl := B_length s
    obtain ⟨k, rfl⟩ := succ_of hk
    by_cases hlt : n < s.size
    · obtain ⟨d, rfl⟩ : ∃ e, d = e + 1 := ⟨d - 1, by omega⟩
      have ih := Named_l0 s hs d (n + 1) k (by omega) (by omega)
      simp only [manometerref05_Named.l0]
      rw [if_pos (by omega), if_pos (by omega), if_pos (by omega), Letter_f, bt_B, w64 (by omega) (by omega)]
      have e1 : resN (B s) n = (letB ((B s).getD n 0).toNat && resN (B s) (n + 1)) := by
        unfold resN
        rw [drop_cons (B s) n (by omega), List.all_cons, Bool.and_assoc]
      rw [e1]
      cases letB ((B s).getD n 0).toNat with
      | false => simp
      | true =>
        simp only [Option.bind_some, if_true, Bool.true_and]
        exact_mod_cast ih
    · have hn : n = s.size := by omega
      simp only [manometerref05_Named.l0]
      rw [if_neg (by omega)]
      have e1 : (B s).drop n = [] := List.drop_of_length_le (by omega)
      have e0 := bt_B s 0
      rw [show ((0 : Nat) : Int) = 0 from rfl] at e0
      unfold resN
      rw [e1, List.all_nil, Bool.true_and, hl, e0]
      by_cases h1 : 1 ≤ s.size
      · rw [if_pos (by omega), decide_eq_true h1]
        by_cases h2 : s.size ≤ 64
        · rw [if_pos (by omega), if_pos (by omega), decide_eq_true h2]
          by_cases h3 : ((B s).getD 0 0).toNat < 48
          · rw [if_pos (by omega), decide_eq_true h3]; rfl
          · rw [if_neg (by omega), decide_eq_false h3]
            simp only [Bool.true_and, Bool.false_or, Option.some.injEq]
            rw [Bool.eq_iff_iff]
            simp only [decide_eq_true_eq]
            omega
        · rw [if_neg (by omega), decide_eq_false h2]; rfl
      · rw [if_neg (by omega), decide_eq_false h1]; rfl
theorem Named_ev (s : ByteArray) (hs : s.size ≤ 1000000000000) : Ev (fun k => manometerref05_Named.f k s) (namedB (B s)) :=
  Ev.at s.size (fun k hk => by
    unfold manometerref05_Named.f
    have h := Named_l0 s hs s.size 0 k (by omega) hk
    rw [resN_zero] at h
    exact h)
def moreB (l : Str) (a n : Nat) : Bool := decide (a + n ≤ l.length) && (List.range n).all (fun i => decide (128 ≤ (l.getD (a + i) 0).toNat ∧ (l.getD (a + i) 0).toNat ≤ 191))
theorem tdiv64 (b : Nat) (hb : b < 256) : (Int.tdiv (b : Int) 64 % 256 = 2) ↔ (128 ≤ b ∧ b ≤ 191) := by
  rw [Int.tdiv_eq_ediv_of_nonneg (by omega)]
  omega
theorem more_l0 (s : ByteArray) (a n : Nat) (hs : s.size ≤ 1000000000000) (ha : a + n ≤ s.size) : ∀ (d i k : Nat), i + d = n → d < k →
    manometerref05_more.l0 k s (a : Int) (n : Int) (i : Int) = some ((List.range d).all (fun j => decide (128 ≤ ((B s).getD (a + (i + j)) 0).toNat ∧ ((B s).getD (a + (i + j)) 0).toNat ≤ 191)))
  | d, i, k, hd, hk => by
    have hl := B_length s
    obtain ⟨k, rfl⟩ := succ_of hk
    by_cases hlt : i < n
    · obtain ⟨d, rfl⟩ : ∃ e, d = e + 1 := ⟨d - 1, by omega⟩
      have ih := more_l0 s a n hs ha d (i + 1) k (by omega) (by omega)
      simp only [manometerref05_more.l0]
      rw [if_pos (by omega), w64 (x := (a : Int) + i) (by omega) (by omega), if_pos (by omega), if_pos (by omega), show (a : Int) + i = ((a + i : Nat) : Int) by omega, bt_B, w64 (by omega) (by omega), show (i : Int) + 1 = ((i + 1 : Nat) : Int) by omega, ih]
      have hb := ((B s).getD (a + i) 0).toNat_lt
      rw [List.range_succ_eq_map, List.all_cons, List.all_map]
      by_cases h : 128 ≤ ((B s).getD (a + i) 0).toNat ∧ ((B s).getD (a + i) 0).toNat ≤ 191
      · rw [if_pos ((tdiv64 _ hb).2 h)]
        simp only [Nat.add_zero, decide_eq_true h, Bool.true_and, Function.comp_def, Nat.succ_eq_add_one, show ∀ j, i + 1 + j = i + (j + 1) from fun j => by omega]
      · rw [if_neg (fun hh => h ((tdiv64 _ hb).1 hh))]
        simp only [Nat.add_zero, decide_eq_false h, Bool.false_and]
    · obtain rfl : d = 0 := by omega
      simp only [manometerref05_more.l0]
      rw [if_neg (by omega)]
      rfl
theorem more_f (s : ByteArray) (a n k : Nat) (hs : s.size ≤ 1000000000000) (hn : n ≤ 3) (ha : a ≤ s.size + 1) (hk : 4 ≤ k) : manometerref05_more.f k s (a : Int) (n : Int) = some (moreB (B s) a n) := by
  unfold manometerref05_more.f moreB
  rw [B_length, w64 (by omega) (by omega)]
  by_cases h : a + n ≤ s.size
  · rw [if_neg (by omega), decide_eq_true h, Bool.true_and]
    have := more_l0 s a n hs h n 0 k (by omega) (by omega)
    simpa using this
  · rw [if_pos (by omega), decide_eq_false h]; rfl
theorem more1 (l : Str) (a : Nat) : moreB l a 1 = decide (a + 1 ≤ l.length ∧ 128 ≤ (l.getD a 0).toNat ∧ (l.getD a 0).toNat ≤ 191) := by
  rw [Bool.eq_iff_iff]
  simp [moreB, List.range_succ]
theorem more2 (l : Str) (a : Nat) : moreB l a 2 = decide (a + 2 ≤ l.length ∧ (128 ≤ (l.getD a 0).toNat ∧ (l.getD a 0).toNat ≤ 191) ∧ 128 ≤ (l.getD (a + 1) 0).toNat ∧ (l.getD (a + 1) 0).toNat ≤ 191) := by
  rw [Bool.eq_iff_iff]
  simp [moreB, List.range_succ]
theorem more3 (l : Str) (a : Nat) : moreB l a 3 = decide (a + 3 ≤ l.length ∧ (128 ≤ (l.getD a 0).toNat ∧ (l.getD a 0).toNat ≤ 191) ∧ (128 ≤ (l.getD (a + 1) 0).toNat ∧ (l.getD (a + 1) 0).toNat ≤ 191) ∧ 128 ≤ (l.getD (a + 2) 0).toNat ∧ (l.getD (a + 2) 0).toNat ≤ 191) := by
  rw [Bool.eq_iff_iff]
  simp [moreB, List.range_succ]
def stepN (l : Str) : Nat :=
  if (l.getD 0 0).toNat < 128 then 1 else
  match Lib.checkN l.length (l.getD 1 0).toNat (l.getD 2 0).toNat (l.getD 3 0).toNat (Lib.firstT (l.getD 0 0).toNat % 8) (Lib.accLo (Lib.firstT (l.getD 0 0).toNat / 16)) (Lib.accHi (Lib.firstT (l.getD 0 0).toNat / 16)) with
  | none => 0
  | some k => k
theorem tmodi (a : Nat) (b : Int) (hb : 0 < b) : Int.tmod (a : Int) b = (a : Int) % b := Int.tmod_eq_emod_of_nonneg (by omega)
theorem sum3 (c c1 c2 : Nat) (hc : c < 256) (h1 : c1 < 256) (h2 : c2 < 256) :
    wrap64 ((wrap64 ((wrap64 ((wrap64 (Int.tmod (c : Int) 16)) * 4096)) + (wrap64 ((wrap64 (Int.tmod (c1 : Int) 64)) * 64)))) + (wrap64 (Int.tmod (c2 : Int) 64))) = ((c % 16 * 4096 + c1 % 64 * 64 + c2 % 64 : Nat) : Int) := by
  rw [tmodi c 16 (by decide), tmodi c1 64 (by decide), tmodi c2 64 (by decide)]
  rw [w64 (x := (c : Int) % 16) (by omega) (by omega), w64 (x := (c1 : Int) % 64) (by omega) (by omega), w64 (x := (c2 : Int) % 64) (by omega) (by omega)]
  rw [w64 (x := (c : Int) % 16 * 4096) (by omega) (by omega), w64 (x := (c1 : Int) % 64 * 64) (by omega) (by omega)]
  rw [w64 (x := (c : Int) % 16 * 4096 + (c1 : Int) % 64 * 64) (by omega) (by omega), w64 (by omega) (by omega)]
  omega
theorem sum4 (c c1 c2 c3 : Nat) (hc : c < 256) (h1 : c1 < 256) (h2 : c2 < 256) (h3 : c3 < 256) :
    wrap64 ((wrap64 ((wrap64 ((wrap64 ((wrap64 (Int.tmod (c : Int) 8)) * 262144)) + (wrap64 ((wrap64 (Int.tmod (c1 : Int) 64)) * 4096)))) + (wrap64 ((wrap64 (Int.tmod (c2 : Int) 64)) * 64)))) + (wrap64 (Int.tmod (c3 : Int) 64))) = ((c % 8 * 262144 + c1 % 64 * 4096 + c2 % 64 * 64 + c3 % 64 : Nat) : Int) := by
  rw [tmodi c 8 (by decide), tmodi c1 64 (by decide), tmodi c2 64 (by decide), tmodi c3 64 (by decide)]
  rw [w64 (x := (c : Int) % 8) (by omega) (by omega), w64 (x := (c1 : Int) % 64) (by omega) (by omega), w64 (x := (c2 : Int) % 64) (by omega) (by omega), w64 (x := (c3 : Int) % 64) (by omega) (by omega)]
  rw [w64 (x := (c : Int) % 8 * 262144) (by omega) (by omega), w64 (x := (c1 : Int) % 64 * 4096) (by omega) (by omega), w64 (x := (c2 : Int) % 64 * 64) (by omega) (by omega)]
  rw [w64 (x := (c : Int) % 8 * 262144 + (c1 : Int) % 64 * 4096) (by omega) (by omega), w64 (x := (c : Int) % 8 * 262144 + (c1 : Int) % 64 * 4096 + (c2 : Int) % 64 * 64) (by omega) (by omega), w64 (by omega) (by omega)]
  omega
def stepC (n c c1 c2 c3 : Nat) : Int :=
  if c < 128 then 1 else
  match Lib.checkN n c1 c2 c3 (Lib.firstT c % 8) (Lib.accLo (Lib.firstT c / 16)) (Lib.accHi (Lib.firstT c / 16)) with
  | none => 0
  | some k => k
def stepD (n c c1 c2 c3 : Nat) : Int :=
  if c < 128 then 1
  else if 194 ≤ c ∧ c < 224 then (if 2 ≤ n ∧ 128 ≤ c1 ∧ c1 ≤ 191 then 2 else 0)
  else if 224 ≤ c ∧ c < 240 then (if (3 ≤ n ∧ (128 ≤ c1 ∧ c1 ≤ 191) ∧ 128 ≤ c2 ∧ c2 ≤ 191) ∧ 2048 ≤ c % 16 * 4096 + c1 % 64 * 64 + c2 % 64 ∧ (c % 16 * 4096 + c1 % 64 * 64 + c2 % 64 < 55296 ∨ 57343 < c % 16 * 4096 + c1 % 64 * 64 + c2 % 64) then 3 else 0)
  else if 240 ≤ c ∧ c < 245 then (if (4 ≤ n ∧ (128 ≤ c1 ∧ c1 ≤ 191) ∧ (128 ≤ c2 ∧ c2 ≤ 191) ∧ 128 ≤ c3 ∧ c3 ≤ 191) ∧ 65536 ≤ c % 8 * 262144 + c1 % 64 * 4096 + c2 % 64 * 64 + c3 % 64 ∧ c % 8 * 262144 + c1 % 64 * 4096 + c2 % 64 * 64 + c3 % 64 ≤ 1114111 then 4 else 0)
  else 0
theorem check2 (n c1 c2 c3 lo hi : Nat) : Lib.checkN n c1 c2 c3 2 lo hi = if n < 2 ∨ c1 < lo ∨ hi < c1 then none else some 2 := rfl
theorem check3 (n c1 c2 c3 lo hi : Nat) : Lib.checkN n c1 c2 c3 3 lo hi = if n < 3 ∨ c1 < lo ∨ hi < c1 ∨ c2 < 128 ∨ 191 < c2 then none else some 3 := rfl
theorem check4 (n c1 c2 c3 lo hi : Nat) : Lib.checkN n c1 c2 c3 4 lo hi = if n < 4 ∨ c1 < lo ∨ hi < c1 ∨ c2 < 128 ∨ 191 < c2 ∨ c3 < 128 ∨ 191 < c3 then none else some 4 := rfl
theorem check1 (n c1 c2 c3 lo hi : Nat) : Lib.checkN n c1 c2 c3 1 lo hi = none := rfl
theorem stepC_D (n c c1 c2 c3 : Nat) (hc : c < 256) (h1 : c1 < 256) (h2 : c2 < 256) (h3 : c3 < 256) : stepC n c c1 c2 c3 = stepD n c c1 c2 c3 := by
  unfold stepC stepD
  by_cases h : c < 128
  · rw [if_pos h, if_pos h]
  rw [if_neg h, if_neg h]
  by_cases g1 : c < 194
  · have e : Lib.firstT c = 241 := by simp [Lib.firstT, h, g1]
    rw [e, check1, if_neg (by omega), if_neg (by omega), if_neg (by omega)]
  by_cases g2 : c < 224
  · have e : Lib.firstT c = 2 := by simp [Lib.firstT, h, g1, g2]
    rw [e, check2, if_pos (by omega : 194 ≤ c ∧ c < 224)]
    by_cases q : n < 2 ∨ c1 < Lib.accLo (2 / 16) ∨ Lib.accHi (2 / 16) < c1
    · rw [if_pos q, if_neg (by simp [Lib.accLo, Lib.accHi] at q; omega)]
    · rw [if_neg q, if_pos (by simp [Lib.accLo, Lib.accHi] at q; omega)]; rfl
  rw [if_neg (by omega : ¬ (194 ≤ c ∧ c < 224))]
  by_cases g3 : c < 240
  · rw [if_pos (by omega : 224 ≤ c ∧ c < 240)]
    by_cases a1 : c = 224
    · subst a1
      rw [show Lib.firstT 224 = 19 from rfl, check3]
      by_cases q : n < 3 ∨ c1 < Lib.accLo (19 / 16) ∨ Lib.accHi (19 / 16) < c1 ∨ c2 < 128 ∨ 191 < c2
      · rw [if_pos q, if_neg (by simp [Lib.accLo, Lib.accHi] at q; omega)]
      · rw [if_neg q, if_pos (by simp [Lib.accLo, Lib.accHi] at q; omega)]; rfl
    by_cases a2 : c = 237
    · subst a2
      rw [show Lib.firstT 237 = 35 from rfl, check3]
      by_cases q : n < 3 ∨ c1 < Lib.accLo (35 / 16) ∨ Lib.accHi (35 / 16) < c1 ∨ c2 < 128 ∨ 191 < c2
      · rw [if_pos q, if_neg (by simp [Lib.accLo, Lib.accHi] at q; omega)]
      · rw [if_neg q, if_pos (by simp [Lib.accLo, Lib.accHi] at q; omega)]; rfl
    have e : Lib.firstT c = 3 := by
      unfold Lib.firstT
      rw [if_neg h, if_neg g1, if_neg g2, if_neg a1]
      by_cases a3 : c < 237
      · rw [if_pos a3]
      · rw [if_neg a3, if_neg a2, if_pos g3]
    rw [e, check3]
    by_cases q : n < 3 ∨ c1 < Lib.accLo (3 / 16) ∨ Lib.accHi (3 / 16) < c1 ∨ c2 < 128 ∨ 191 < c2
    · rw [if_pos q, if_neg (by simp [Lib.accLo, Lib.accHi] at q; omega)]
    · rw [if_neg q, if_pos (by simp [Lib.accLo, Lib.accHi] at q; omega)]; rfl
  rw [if_neg (by omega : ¬ (224 ≤ c ∧ c < 240))]
  by_cases g4 : c < 245
  · rw [if_pos (by omega : 240 ≤ c ∧ c < 245)]
    by_cases a1 : c = 240
    · subst a1
      rw [show Lib.firstT 240 = 52 from rfl, check4]
      by_cases q : n < 4 ∨ c1 < Lib.accLo (52 / 16) ∨ Lib.accHi (52 / 16) < c1 ∨ c2 < 128 ∨ 191 < c2 ∨ c3 < 128 ∨ 191 < c3
      · rw [if_pos q, if_neg (by simp [Lib.accLo, Lib.accHi] at q; omega)]
      · rw [if_neg q, if_pos (by simp [Lib.accLo, Lib.accHi] at q; omega)]; rfl
    by_cases a2 : c = 244
    · subst a2
      rw [show Lib.firstT 244 = 68 from rfl, check4]
      by_cases q : n < 4 ∨ c1 < Lib.accLo (68 / 16) ∨ Lib.accHi (68 / 16) < c1 ∨ c2 < 128 ∨ 191 < c2 ∨ c3 < 128 ∨ 191 < c3
      · rw [if_pos q, if_neg (by simp [Lib.accLo, Lib.accHi] at q; omega)]
      · rw [if_neg q, if_pos (by simp [Lib.accLo, Lib.accHi] at q; omega)]; rfl
    have e : Lib.firstT c = 4 := by
      unfold Lib.firstT
      rw [if_neg h, if_neg g1, if_neg g2, if_neg (by omega : ¬ c = 224), if_neg (by omega : ¬ c < 237), if_neg (by omega : ¬ c = 237), if_neg g3, if_neg a1, if_pos (by omega : c < 244)]
    rw [e, check4]
    by_cases q : n < 4 ∨ c1 < Lib.accLo (4 / 16) ∨ Lib.accHi (4 / 16) < c1 ∨ c2 < 128 ∨ 191 < c2 ∨ c3 < 128 ∨ 191 < c3
    · rw [if_pos q, if_neg (by simp [Lib.accLo, Lib.accHi] at q; omega)]
    · rw [if_neg q, if_pos (by simp [Lib.accLo, Lib.accHi] at q; omega)]; rfl
  rw [if_neg (by omega : ¬ (240 ≤ c ∧ c < 245))]
  have e : Lib.firstT c = 241 := by
    unfold Lib.firstT
    rw [if_neg h, if_neg g1, if_neg g2, if_neg (by omega : ¬ c = 224), if_neg (by omega : ¬ c < 237), if_neg (by omega : ¬ c = 237), if_neg g3, if_neg (by omega : ¬ c = 240), if_neg (by omega : ¬ c < 244), if_neg (by omega : ¬ c = 244)]
  rw [e, check1]
theorem stepN_C (l : Str) : (stepN l : Int) = stepC l.length (l.getD 0 0).toNat (l.getD 1 0).toNat (l.getD 2 0).toNat (l.getD 3 0).toNat := by
  unfold stepN stepC
  split
  · rfl
  · split <;> rfl
theorem ite_dec {α : Type} (p : Prop) [Decidable p] (a b : α) : (if decide p = true then a else b) = if p then a else b := by
  by_cases h : p <;> simp [h]
def stepE (n c c1 c2 c3 u v : Nat) : Int :=
  if c < 128 then 1
  else if 194 ≤ c ∧ c < 224 then (if 2 ≤ n ∧ 128 ≤ c1 ∧ c1 ≤ 191 then 2 else 0)
  else if 224 ≤ c ∧ c < 240 then (if (3 ≤ n ∧ (128 ≤ c1 ∧ c1 ≤ 191) ∧ 128 ≤ c2 ∧ c2 ≤ 191) ∧ 2048 ≤ u ∧ (u < 55296 ∨ 57343 < u) then 3 else 0)
  else if 240 ≤ c ∧ c < 245 then (if (4 ≤ n ∧ (128 ≤ c1 ∧ c1 ≤ 191) ∧ (128 ≤ c2 ∧ c2 ≤ 191) ∧ 128 ≤ c3 ∧ c3 ≤ 191) ∧ 65536 ≤ v ∧ v ≤ 1114111 then 4 else 0)
  else 0
theorem stepD_E (n c c1 c2 c3 : Nat) : stepD n c c1 c2 c3 = stepE n c c1 c2 c3 (c % 16 * 4096 + c1 % 64 * 64 + c2 % 64) (c % 8 * 262144 + c1 % 64 * 4096 + c2 % 64 * 64 + c3 % 64) := rfl
theorem step_core (n a c c1 c2 c3 u v : Nat) (ha : a < n) :
    (if (0 : Int) ≤ (a : Int) then (if (a : Int) < (n : Int) then (if (c : Int) < 128 then some 1 else (if (c : Int) ≥ 194 then (if (c : Int) < 224 then (if a + 2 ≤ n ∧ 128 ≤ c1 ∧ c1 ≤ 191 then some 2 else (if (c : Int) ≥ 224 then
        if (c : Int) < 240 then
          (if a + 3 ≤ n ∧ (128 ≤ c1 ∧ c1 ≤ 191) ∧ 128 ≤ c2 ∧ c2 ≤ 191 then
            (if (0 : Int) ≤ ((a + 1 : Nat) : Int) then (if ((a + 1 : Nat) : Int) < (n : Int) then (if (0 : Int) ≤ ((a + 2 : Nat) : Int) then (if ((a + 2 : Nat) : Int) < (n : Int) then (if (u : Int) ≥ 2048 then (if (u : Int) < 55296 then some (3 : Int) else if (u : Int) > 57343 then some 3 else some 0) else some 0) else none) else none) else none) else none)
          else (if (c : Int) ≥ 240 then if (c : Int) < 245 then (if a + 4 ≤ n ∧ (128 ≤ c1 ∧ c1 ≤ 191) ∧ (128 ≤ c2 ∧ c2 ≤ 191) ∧ 128 ≤ c3 ∧ c3 ≤ 191 then (if (0 : Int) ≤ ((a + 1 : Nat) : Int) then (if ((a + 1 : Nat) : Int) < (n : Int) then (if (0 : Int) ≤ ((a + 2 : Nat) : Int) then (if ((a + 2 : Nat) : Int) < (n : Int) then (if (0 : Int) ≤ ((a + 3 : Nat) : Int) then (if ((a + 3 : Nat) : Int) < (n : Int) then (if (v : Int) ≥ 65536 then (if (v : Int) ≤ 1114111 then some 4 else some 0) else some 0) else none) else none) else none) else none) else none) else none) else some 0) else some 0 else some 0))
        else (if (c : Int) ≥ 240 then if (c : Int) < 245 then (if a + 4 ≤ n ∧ (128 ≤ c1 ∧ c1 ≤ 191) ∧ (128 ≤ c2 ∧ c2 ≤ 191) ∧ 128 ≤ c3 ∧ c3 ≤ 191 then (if (0 : Int) ≤ ((a + 1 : Nat) : Int) then (if ((a + 1 : Nat) : Int) < (n : Int) then (if (0 : Int) ≤ ((a + 2 : Nat) : Int) then (if ((a + 2 : Nat) : Int) < (n : Int) then (if (0 : Int) ≤ ((a + 3 : Nat) : Int) then (if ((a + 3 : Nat) : Int) < (n : Int) then (if (v : Int) ≥ 65536 then (if (v : Int) ≤ 1114111 then some 4 else some 0) else some 0) else none) else none) else none) else none) else none) else none) else some 0) else some 0 else some 0)
      else (if (c : Int) ≥ 240 then if (c : Int) < 245 then (if a + 4 ≤ n ∧ (128 ≤ c1 ∧ c1 ≤ 191) ∧ (128 ≤ c2 ∧ c2 ≤ 191) ∧ 128 ≤ c3 ∧ c3 ≤ 191 then (if (0 : Int) ≤ ((a + 1 : Nat) : Int) then (if ((a + 1 : Nat) : Int) < (n : Int) then (if (0 : Int) ≤ ((a + 2 : Nat) : Int) then (if ((a + 2 : Nat) : Int) < (n : Int) then (if (0 : Int) ≤ ((a + 3 : Nat) : Int) then (if ((a + 3 : Nat) : Int) < (n : Int) then (if (v : Int) ≥ 65536 then (if (v : Int) ≤ 1114111 then some 4 else some 0) else some 0) else none) else none) else none) else none) else none) else none) else some 0) else some 0 else some 0))) else (if (c : Int) ≥ 224 then
        if (c : Int) < 240 then
          (if a + 3 ≤ n ∧ (128 ≤ c1 ∧ c1 ≤ 191) ∧ 128 ≤ c2 ∧ c2 ≤ 191 then
            (if (0 : Int) ≤ ((a + 1 : Nat) : Int) then (if ((a + 1 : Nat) : Int) < (n : Int) then (if (0 : Int) ≤ ((a + 2 : Nat) : Int) then (if ((a + 2 : Nat) : Int) < (n : Int) then (if (u : Int) ≥ 2048 then (if (u : Int) < 55296 then some (3 : Int) else if (u : Int) > 57343 then some 3 else some 0) else some 0) else none) else none) else none) else none)
          else (if (c : Int) ≥ 240 then if (c : Int) < 245 then (if a + 4 ≤ n ∧ (128 ≤ c1 ∧ c1 ≤ 191) ∧ (128 ≤ c2 ∧ c2 ≤ 191) ∧ 128 ≤ c3 ∧ c3 ≤ 191 then (if (0 : Int) ≤ ((a + 1 : Nat) : Int) then (if ((a + 1 : Nat) : Int) < (n : Int) then (if (0 : Int) ≤ ((a + 2 : Nat) : Int) then (if ((a + 2 : Nat) : Int) < (n : Int) then (if (0 : Int) ≤ ((a + 3 : Nat) : Int) then (if ((a + 3 : Nat) : Int) < (n : Int) then (if (v : Int) ≥ 65536 then (if (v : Int) ≤ 1114111 then some 4 else some 0) else some 0) else none) else none) else none) else none) else none) else none) else some 0) else some 0 else some 0))
        else (if (c : Int) ≥ 240 then if (c : Int) < 245 then (if a + 4 ≤ n ∧ (128 ≤ c1 ∧ c1 ≤ 191) ∧ (128 ≤ c2 ∧ c2 ≤ 191) ∧ 128 ≤ c3 ∧ c3 ≤ 191 then (if (0 : Int) ≤ ((a + 1 : Nat) : Int) then (if ((a + 1 : Nat) : Int) < (n : Int) then (if (0 : Int) ≤ ((a + 2 : Nat) : Int) then (if ((a + 2 : Nat) : Int) < (n : Int) then (if (0 : Int) ≤ ((a + 3 : Nat) : Int) then (if ((a + 3 : Nat) : Int) < (n : Int) then (if (v : Int) ≥ 65536 then (if (v : Int) ≤ 1114111 then some 4 else some 0) else some 0) else none) else none) else none) else none) else none) else none) else some 0) else some 0 else some 0)
      else (if (c : Int) ≥ 240 then if (c : Int) < 245 then (if a + 4 ≤ n ∧ (128 ≤ c1 ∧ c1 ≤ 191) ∧ (128 ≤ c2 ∧ c2 ≤ 191) ∧ 128 ≤ c3 ∧ c3 ≤ 191 then (if (0 : Int) ≤ ((a + 1 : Nat) : Int) then (if ((a + 1 : Nat) : Int) < (n : Int) then (if (0 : Int) ≤ ((a + 2 : Nat) : Int) then (if ((a + 2 : Nat) : Int) < (n : Int) then (if (0 : Int) ≤ ((a + 3 : Nat) : Int) then (if ((a + 3 : Nat) : Int) < (n : Int) then (if (v : Int) ≥ 65536 then (if (v : Int) ≤ 1114111 then some 4 else some 0) else some 0) else none) else none) else none) else none) else none) else none) else some 0) else some 0 else some 0))) else (if (c : Int) ≥ 224 then
        if (c : Int) < 240 then
          (if a + 3 ≤ n ∧ (128 ≤ c1 ∧ c1 ≤ 191) ∧ 128 ≤ c2 ∧ c2 ≤ 191 then
            (if (0 : Int) ≤ ((a + 1 : Nat) : Int) then (if ((a + 1 : Nat) : Int) < (n : Int) then (if (0 : Int) ≤ ((a + 2 : Nat) : Int) then (if ((a + 2 : Nat) : Int) < (n : Int) then (if (u : Int) ≥ 2048 then (if (u : Int) < 55296 then some (3 : Int) else if (u : Int) > 57343 then some 3 else some 0) else some 0) else none) else none) else none) else none)
          else (if (c : Int) ≥ 240 then if (c : Int) < 245 then (if a + 4 ≤ n ∧ (128 ≤ c1 ∧ c1 ≤ 191) ∧ (128 ≤ c2 ∧ c2 ≤ 191) ∧ 128 ≤ c3 ∧ c3 ≤ 191 then (if (0 : Int) ≤ ((a + 1 : Nat) : Int) then (if ((a + 1 : Nat) : Int) < (n : Int) then (if (0 : Int) ≤ ((a + 2 : Nat) : Int) then (if ((a + 2 : Nat) : Int) < (n : Int) then (if (0 : Int) ≤ ((a + 3 : Nat) : Int) then (if ((a + 3 : Nat) : Int) < (n : Int) then (if (v : Int) ≥ 65536 then (if (v : Int) ≤ 1114111 then some 4 else some 0) else some 0) else none) else none) else none) else none) else none) else none) else some 0) else some 0 else some 0))
        else (if (c : Int) ≥ 240 then if (c : Int) < 245 then (if a + 4 ≤ n ∧ (128 ≤ c1 ∧ c1 ≤ 191) ∧ (128 ≤ c2 ∧ c2 ≤ 191) ∧ 128 ≤ c3 ∧ c3 ≤ 191 then (if (0 : Int) ≤ ((a + 1 : Nat) : Int) then (if ((a + 1 : Nat) : Int) < (n : Int) then (if (0 : Int) ≤ ((a + 2 : Nat) : Int) then (if ((a + 2 : Nat) : Int) < (n : Int) then (if (0 : Int) ≤ ((a + 3 : Nat) : Int) then (if ((a + 3 : Nat) : Int) < (n : Int) then (if (v : Int) ≥ 65536 then (if (v : Int) ≤ 1114111 then some 4 else some 0) else some 0) else none) else none) else none) else none) else none) else none) else some 0) else some 0 else some 0)
      else (if (c : Int) ≥ 240 then if (c : Int) < 245 then (if a + 4 ≤ n ∧ (128 ≤ c1 ∧ c1 ≤ 191) ∧ (128 ≤ c2 ∧ c2 ≤ 191) ∧ 128 ≤ c3 ∧ c3 ≤ 191 then (if (0 : Int) ≤ ((a + 1 : Nat) : Int) then (if ((a + 1 : Nat) : Int) < (n : Int) then (if (0 : Int) ≤ ((a + 2 : Nat) : Int) then (if ((a + 2 : Nat) : Int) < (n : Int) then (if (0 : Int) ≤ ((a + 3 : Nat) : Int) then (if ((a + 3 : Nat) : Int) < (n : Int) then (if (v : Int) ≥ 65536 then (if (v : Int) ≤ 1114111 then some 4 else some 0) else some 0) else none) else none) else none) else none) else none) else none) else some 0) else some 0 else some 0)))) else none) else none) = some (stepE (n - a) c c1 c2 c3 u v) := by
  unfold stepE
  rw [if_pos (by omega), if_pos (by omega)]
  have p1 : (0 : Int) ≤ ((a + 1 : Nat) : Int) := by omega
  have p2 : (0 : Int) ≤ ((a + 2 : Nat) : Int) := by omega
  have p3 : (0 : Int) ≤ ((a + 3 : Nat) : Int) := by omega
  by_cases h0 : c < 128
  · rw [if_pos (by omega), if_pos h0]
  rw [if_neg (by omega), if_neg h0]
  by_cases h1 : 194 ≤ c ∧ c < 224
  · rw [if_pos (by omega), if_pos (by omega), if_pos h1]
    by_cases q : 2 ≤ n - a ∧ 128 ≤ c1 ∧ c1 ≤ 191
    · rw [if_pos (by omega), if_pos q]
    · rw [if_neg (by omega), if_neg (by omega), if_neg (by omega), if_neg q]
  rw [if_neg h1]
  have key : (if (c : Int) ≥ 224 then
        if (c : Int) < 240 then
          (if a + 3 ≤ n ∧ (128 ≤ c1 ∧ c1 ≤ 191) ∧ 128 ≤ c2 ∧ c2 ≤ 191 then
            (if (0 : Int) ≤ ((a + 1 : Nat) : Int) then (if ((a + 1 : Nat) : Int) < (n : Int) then (if (0 : Int) ≤ ((a + 2 : Nat) : Int) then (if ((a + 2 : Nat) : Int) < (n : Int) then (if (u : Int) ≥ 2048 then (if (u : Int) < 55296 then some (3 : Int) else if (u : Int) > 57343 then some 3 else some 0) else some 0) else none) else none) else none) else none)
          else
            (if (c : Int) ≥ 240 then if (c : Int) < 245 then (if a + 4 ≤ n ∧ (128 ≤ c1 ∧ c1 ≤ 191) ∧ (128 ≤ c2 ∧ c2 ≤ 191) ∧ 128 ≤ c3 ∧ c3 ≤ 191 then (if (0 : Int) ≤ ((a + 1 : Nat) : Int) then (if ((a + 1 : Nat) : Int) < (n : Int) then (if (0 : Int) ≤ ((a + 2 : Nat) : Int) then (if ((a + 2 : Nat) : Int) < (n : Int) then (if (0 : Int) ≤ ((a + 3 : Nat) : Int) then (if ((a + 3 : Nat) : Int) < (n : Int) then (if (v : Int) ≥ 65536 then (if (v : Int) ≤ 1114111 then some 4 else some 0) else some 0) else none) else none) else none) else none) else none) else none) else some 0) else some 0 else some 0))
        else
          (if (c : Int) ≥ 240 then if (c : Int) < 245 then (if a + 4 ≤ n ∧ (128 ≤ c1 ∧ c1 ≤ 191) ∧ (128 ≤ c2 ∧ c2 ≤ 191) ∧ 128 ≤ c3 ∧ c3 ≤ 191 then (if (0 : Int) ≤ ((a + 1 : Nat) : Int) then (if ((a + 1 : Nat) : Int) < (n : Int) then (if (0 : Int) ≤ ((a + 2 : Nat) : Int) then (if ((a + 2 : Nat) : Int) < (n : Int) then (if (0 : Int) ≤ ((a + 3 : Nat) : Int) then (if ((a + 3 : Nat) : Int) < (n : Int) then (if (v : Int) ≥ 65536 then (if (v : Int) ≤ 1114111 then some 4 else some 0) else some 0) else none) else none) else none) else none) else none) else none) else some 0) else some 0 else some 0)
      else
        (if (c : Int) ≥ 240 then if (c : Int) < 245 then (if a + 4 ≤ n ∧ (128 ≤ c1 ∧ c1 ≤ 191) ∧ (128 ≤ c2 ∧ c2 ≤ 191) ∧ 128 ≤ c3 ∧ c3 ≤ 191 then (if (0 : Int) ≤ ((a + 1 : Nat) : Int) then (if ((a + 1 : Nat) : Int) < (n : Int) then (if (0 : Int) ≤ ((a + 2 : Nat) : Int) then (if ((a + 2 : Nat) : Int) < (n : Int) then (if (0 : Int) ≤ ((a + 3 : Nat) : Int) then (if ((a + 3 : Nat) : Int) < (n : Int) then (if (v : Int) ≥ 65536 then (if (v : Int) ≤ 1114111 then some 4 else some 0) else some 0) else none) else none) else none) else none) else none) else none) else some 0) else some 0 else some 0)) =
      some (if 224 ≤ c ∧ c < 240 then (if (3 ≤ n - a ∧ (128 ≤ c1 ∧ c1 ≤ 191) ∧ 128 ≤ c2 ∧ c2 ≤ 191) ∧ 2048 ≤ u ∧ (u < 55296 ∨ 57343 < u) then 3 else 0) else if 240 ≤ c ∧ c < 245 then (if (4 ≤ n - a ∧ (128 ≤ c1 ∧ c1 ≤ 191) ∧ (128 ≤ c2 ∧ c2 ≤ 191) ∧ 128 ≤ c3 ∧ c3 ≤ 191) ∧ 65536 ≤ v ∧ v ≤ 1114111 then 4 else 0) else 0) := by
    by_cases h2 : 224 ≤ c ∧ c < 240
    · rw [if_pos (by omega), if_pos (by omega), if_pos h2]
      by_cases q : 3 ≤ n - a ∧ (128 ≤ c1 ∧ c1 ≤ 191) ∧ 128 ≤ c2 ∧ c2 ≤ 191
      · rw [if_pos (by omega), if_pos p1, if_pos (by omega), if_pos p2, if_pos (by omega)]
        by_cases y1 : 2048 ≤ u
        · rw [if_pos (by omega)]
          by_cases y2 : u < 55296
          · rw [if_pos (by omega), if_pos ⟨q, y1, .inl y2⟩]
          · rw [if_neg (by omega)]
            by_cases y3 : 57343 < u
            · rw [if_pos (by omega), if_pos ⟨q, y1, .inr y3⟩]
            · rw [if_neg (by omega), if_neg (by omega)]
        · rw [if_neg (by omega), if_neg (by omega)]
      · rw [if_neg (by omega), if_neg (by omega), if_neg (by omega)]
    · rw [if_neg h2]
      by_cases h3 : 240 ≤ c ∧ c < 245
      · rw [if_pos (by omega), if_neg (by omega), if_pos (by omega), if_pos (by omega), if_pos h3]
        by_cases q : 4 ≤ n - a ∧ (128 ≤ c1 ∧ c1 ≤ 191) ∧ (128 ≤ c2 ∧ c2 ≤ 191) ∧ 128 ≤ c3 ∧ c3 ≤ 191
        · rw [if_pos (by omega), if_pos p1, if_pos (by omega), if_pos p2, if_pos (by omega), if_pos p3, if_pos (by omega)]
          by_cases y1 : 65536 ≤ v
          · rw [if_pos (by omega)]
            by_cases y2 : v ≤ 1114111
            · rw [if_pos (by omega), if_pos ⟨q, y1, y2⟩]
            · rw [if_neg (by omega), if_neg (by omega)]
          · rw [if_neg (by omega), if_neg (by omega)]
        · rw [if_neg (by omega), if_neg (by omega)]
      · rw [if_neg h3]
        by_cases z : c < 240
        · rw [if_neg (by omega : ¬ (c : Int) ≥ 224), if_neg (by omega)]
        · rw [if_pos (by omega), if_neg (by omega), if_pos (by omega), if_neg (by omega)]
  rw [← key]
  by_cases h2 : 194 ≤ c
  · rw [if_pos (by omega), if_neg (by omega)]
  · rw [if_neg (by omega)]
theorem step_f (s : ByteArray) (a k : Nat) (hs : s.size ≤ 1000000000000) (ha : a < s.size) (hk : 10 ≤ k) : manometerref05_step.f k s (a : Int) = some (stepN ((B s).drop a) : Int) := by
  obtain ⟨k, rfl⟩ : ∃ m, k = m + 4 := ⟨k - 4, by omega⟩
  have hl : ((B s).drop a).length = s.size - a := by rw [List.length_drop, B_length]
  have e0 := bt_B s a
  have e1 := bt_B s (a + 1)
  have e2 := bt_B s (a + 2)
  have e3 := bt_B s (a + 3)
  have m1 : manometerref05_more.f (k + 4) s ((a + 1 : Nat) : Int) 1 = _ := more_f s (a + 1) 1 (k + 4) hs (by omega) (by omega) (by omega)
  have m2 : manometerref05_more.f (k + 3) s ((a + 1 : Nat) : Int) 2 = _ := more_f s (a + 1) 2 (k + 3) hs (by omega) (by omega) (by omega)
  have m3 : manometerref05_more.f (k + 2) s ((a + 1 : Nat) : Int) 3 = _ := more_f s (a + 1) 3 (k + 2) hs (by omega) (by omega) (by omega)
  rw [more1, B_length] at m1
  rw [more2, B_length] at m2
  rw [more3, B_length] at m3
  have w1 : wrap64 ((a : Int) + 1) = ((a + 1 : Nat) : Int) := wn rfl (Nat.le_trans (Nat.add_le_add_right (Nat.le_of_lt ha) 1) (Nat.le_trans (Nat.add_le_add_right hs 1) (by decide)))
  have w2 : wrap64 ((a : Int) + 2) = ((a + 2 : Nat) : Int) := wn rfl (Nat.le_trans (Nat.add_le_add_right (Nat.le_of_lt ha) 2) (Nat.le_trans (Nat.add_le_add_right hs 2) (by decide)))
  have w3 : wrap64 ((a : Int) + 3) = ((a + 3 : Nat) : Int) := wn rfl (Nat.le_trans (Nat.add_le_add_right (Nat.le_of_lt ha) 3) (Nat.le_trans (Nat.add_le_add_right hs 3) (by decide)))
  have g0 : ((B s).drop a).getD 0 0 = (B s).getD a 0 := by rw [getD_drop]; rfl
  have g1 : ((B s).drop a).getD 1 0 = (B s).getD (a + 1) 0 := by rw [getD_drop]
  have g2 : ((B s).drop a).getD 2 0 = (B s).getD (a + 2) 0 := by rw [getD_drop]
  have g3 : ((B s).drop a).getD 3 0 = (B s).getD (a + 3) 0 := by rw [getD_drop]
  rw [stepN_C, g0, g1, g2, g3, hl]
  simp only [manometerref05_step.f, manometerref05_step.j0, manometerref05_step.j1, manometerref05_step.j2, w1, w2, w3, e0, e1, e2, e3, Nat.add_assoc, Nat.reduceAdd] at m1 m2 m3 ⊢
  have b0 : ((B s).getD a 0).toNat < 256 := ((B s).getD a 0).toNat_lt
  have b1 : ((B s).getD (a + 1) 0).toNat < 256 := ((B s).getD (a + 1) 0).toNat_lt
  have b2 : ((B s).getD (a + 2) 0).toNat < 256 := ((B s).getD (a + 2) 0).toNat_lt
  have b3 : ((B s).getD (a + 3) 0).toNat < 256 := ((B s).getD (a + 3) 0).toNat_lt
  clear w1 w2 w3 e0 e1 e2 e3 g0 g1 g2 g3
  rw [stepC_D _ _ _ _ _ b0 b1 b2 b3, stepD_E, m1, m2, m3, sum3 _ _ _ b0 b1 b2, sum4 _ _ _ _ b0 b1 b2 b3]
  clear m1 m2 m3
  simp only [Option.bind_some, ite_dec, if_false, Bool.false_eq_true]
  exact step_core s.size a _ _ _ _ _ _ ha
theorem valid_step (l : Str) (h : l ≠ []) : Lib.validD l = if stepN l = 0 then false else Lib.validD (l.drop (stepN l)) := by
  obtain ⟨c, r, rfl⟩ := List.exists_cons_of_ne_nil h
  unfold stepN
  by_cases hc : c.toNat < 128
  · rw [if_pos (show ((c :: r).getD 0 0).toNat < 128 from hc), if_neg (by decide), Lib.validD_cons c r hc]
    rfl
  · rw [if_neg (show ¬ ((c :: r).getD 0 0).toNat < 128 from hc), Lib.validD_lead (c :: r) h (by show 128 ≤ c.toNat; omega)]
    obtain ⟨z, hz⟩ : ∃ z, z = Lib.checkN (c :: r).length ((c :: r).getD 1 0).toNat ((c :: r).getD 2 0).toNat ((c :: r).getD 3 0).toNat (Lib.firstT ((c :: r).getD 0 0).toNat % 8) (Lib.accLo (Lib.firstT ((c :: r).getD 0 0).toNat / 16)) (Lib.accHi (Lib.firstT ((c :: r).getD 0 0).toNat / 16)) := ⟨_, rfl⟩
    rw [← hz]
    cases z with
    | none => rfl
    | some k =>
      have hk : k ≠ 0 := by
        rintro rfl
        unfold Lib.checkN at hz
        repeat' split at hz
        all_goals first | (injection hz with hz; omega) | cases hz
      show _ = if k = 0 then false else _
      rw [if_neg hk]
theorem stepN_le (l : Str) (h : l ≠ []) : stepN l ≤ l.length := by
  have hl := List.length_pos_iff.2 h
  have h1 := stepN_C l
  rw [stepC_D _ _ _ _ _ (l.getD 0 0).toNat_lt (l.getD 1 0).toNat_lt (l.getD 2 0).toNat_lt (l.getD 3 0).toNat_lt] at h1
  unfold stepD at h1
  repeat' split at h1
  all_goals omega
theorem Valid_l0 (s : ByteArray) (hs : s.size ≤ 1000000000000) : ∀ (d n k : Nat), n + d = s.size → d + 10 < k → manometerref05_Valid.l0 k s (n : Int) = some (Lib.validD ((B s).drop n)) := by
  intro d
  induction d using Nat.strongRecOn with
  | _ d ih =>
    intro n k hd hk
    obtain ⟨k, rfl⟩ := succ_of hk
    have hl : ((B s).drop n).length = s.size - n := by rw [List.length_drop, B_length]
    by_cases hlt : n < s.size
    · have hne : (B s).drop n ≠ [] := fun h => by rw [h] at hl; simp at hl; omega
      have hst := step_f s n k hs hlt (by omega)
      have hle := stepN_le _ hne
      simp only [manometerref05_Valid.l0]
      rw [if_pos (by omega), hst, Option.bind_some, valid_step _ hne]
      generalize stepN ((B s).drop n) = z at hle ⊢
      by_cases hz : z = 0
      · rw [if_pos (by omega), if_pos hz]
      · rw [if_neg (by omega), if_neg hz, wn (n := n + z) (by omega) (by omega), ih (d - z) (by omega) (n + z) k (by omega) (by omega), List.drop_drop]
    · have he : (B s).drop n = [] := List.drop_of_length_le (by rw [B_length]; omega)
      simp only [manometerref05_Valid.l0]
      rw [if_neg (by omega), he]
      rfl
def valuedB (l : Str) : Bool := decide (l.length ≤ 128) && Lib.validD l
theorem Valued_ev (s : ByteArray) (hs : s.size ≤ 1000000000000) : Ev (fun k => manometerref05_Valued.f k s) (valuedB (B s)) :=
  Ev.at (s.size + 10) (fun k hk => by
    unfold manometerref05_Valued.f manometerref05_Valid.f valuedB
    have h := Valid_l0 s hs s.size 0 k (by omega) hk
    rw [B_length]
    by_cases h1 : s.size ≤ 128
    · rw [if_pos (by omega), show (0 : Int) = ((0 : Nat) : Int) from rfl, h, decide_eq_true h1]; rfl
    · rw [if_neg (by omega), decide_eq_false h1]; rfl)
theorem pValued_f (s : ByteArray) (hs : s.size ≤ 1000000000000) : labels_Valued.f s = some (valuedB (B s)) := by
  unfold labels_Valued.f utf8_ValidString.f valuedB
  rw [B_length]
  by_cases h1 : s.size ≤ 128
  · rw [if_pos (by omega), if_pos (by omega), decide_eq_true h1]; rfl
  · rw [if_neg (by omega), decide_eq_false h1]; rfl
theorem pNamed_f (s : ByteArray) (hs : s.size ≤ 1000000000000) : labels_Named.f s = some (namedB (B s)) := by
  unfold labels_Named.f
  rw [if_pos (by omega)]
  rfl
def ints (l : Str) : List Int := l.map fun b => (b.toNat : Int)
theorem ints_length (l : Str) : (ints l).length = l.length := List.length_map _
theorem ints_append (a b : Str) : ints (a ++ b) = ints a ++ ints b := List.map_append
theorem B_nums (l : Str) : B (strOfNums (ints l)) = l := by
  unfold B strOfNums ints
  simp [Function.comp_def]
theorem strOf (l : Str) : strOfNums (ints l) = str l := B_inj (by rw [B_nums, B_str])
theorem u8eq (c : UInt8) (m : Nat) (hm : m < 256) : ((c.toNat : Int) = (m : Int)) ↔ c = UInt8.ofNat m := by
  constructor
  · intro h
    apply UInt8.toNat_inj.1
    simp
    omega
  · rintro rfl
    simp
    omega
theorem c34 (c : UInt8) : ((c.toNat : Int) = 34) ↔ c = 34 := u8eq c 34 (by decide)
theorem c10 (c : UInt8) : ((c.toNat : Int) = 10) ↔ c = 10 := u8eq c 10 (by decide)
theorem c92 (c : UInt8) : ((c.toNat : Int) = 92) ↔ c = 92 := u8eq c 92 (by decide)
theorem take_nums (acc : Str) (c : UInt8) : ints acc ++ [(c.toNat : Int)] = ints (acc ++ [c]) := by rw [ints_append]; rfl
def esc (c : UInt8) : Str := if c = 34 ∨ c = 92 then [92, c] else if c = 10 then [92, 110] else [c]
def quoteL (l : Str) : Str := [34] ++ l.flatMap esc ++ [34]
theorem esc_length (c : UInt8) : (esc c).length ≤ 2 := by unfold esc; split <;> (try split) <;> simp
theorem Quote_l0 (s : ByteArray) (hs : s.size ≤ 1000000000000) : ∀ (d n k : Nat) (acc : Str), n + d = s.size → acc.length ≤ 2 * n + 1 → 2 * d + 1 < k → labels_Quote.l0 k s (ints acc) (s.size : Int) (n : Int) = some (str (acc ++ ((B s).drop n).flatMap esc ++ [34]))
  | d, n, k, acc, hd, ha, hk => by
    obtain ⟨k, rfl⟩ := succ_of hk
    have hl := B_length s
    have hil := ints_length acc
    by_cases hlt : n < s.size
    · obtain ⟨d, rfl⟩ : ∃ e, d = e + 1 := ⟨d - 1, by omega⟩
      obtain ⟨k, rfl⟩ : ∃ m, k = m + 1 := ⟨k - 1, by omega⟩
      have hdr := drop_cons (B s) n (by omega)
      have hbt := bt_B s n
      obtain ⟨c, hc⟩ : ∃ c, c = (B s).getD n 0 := ⟨_, rfl⟩
      rw [← hc] at hdr hbt
      have hec := esc_length c
      have ih := Quote_l0 s hs d (n + 1) k (acc ++ esc c) (by omega) (by rw [List.length_append]; omega) (by omega)
      rw [hdr, List.flatMap_cons, ← List.append_assoc acc, ← ih]
      simp only [labels_Quote.l0, labels_Quote.j1]
      rw [if_pos (by omega), if_pos (by omega), if_pos (by omega), hbt, w1 n (by omega)]
      by_cases h34 : c = 34
      · have b1 : ((c.toNat : Int) == 34) = true := beq_iff_eq.mpr ((c34 c).2 h34)
        have e1 : ints acc ++ [92, (c.toNat : Int)] = ints (acc ++ esc c) := by rw [ints_append]; unfold esc; rw [if_pos (.inl h34)]; rfl
        rw [if_pos ((c34 c).2 h34), b1, if_pos rfl, if_pos (by omega), if_pos (by omega)]
        simp only [Option.bind_some]
        rw [if_pos (by simp; omega), e1]
      rw [if_neg (fun h => h34 ((c34 c).1 h))]
      by_cases h92 : c = 92
      · have b1 : ((c.toNat : Int) == 92) = true := beq_iff_eq.mpr ((c92 c).2 h92)
        have e1 : ints acc ++ [92, (c.toNat : Int)] = ints (acc ++ esc c) := by rw [ints_append]; unfold esc; rw [if_pos (.inr h92)]; rfl
        rw [b1, if_pos rfl, if_pos (by omega), if_pos (by omega)]
        simp only [Option.bind_some]
        rw [if_pos (by simp; omega), e1]
      have b1 : ((c.toNat : Int) == 92) = false := beq_eq_false_iff_ne.mpr (fun h => h92 ((c92 c).1 h))
      rw [b1, if_neg (by decide)]
      by_cases h10 : c = 10
      · have e1 : ints acc ++ [92, 110] = ints (acc ++ esc c) := by rw [ints_append]; unfold esc; rw [if_neg (by rintro (h | h); exact h34 h; exact h92 h), if_pos h10]; rfl
        rw [if_pos ((c10 c).2 h10)]
        simp only [Option.bind_some]
        rw [if_pos (by simp; omega), e1]
      · have e1 : ints acc ++ [(c.toNat : Int)] = ints (acc ++ esc c) := by rw [ints_append]; unfold esc; rw [if_neg (by rintro (h | h); exact h34 h; exact h92 h), if_neg h10]; rfl
        rw [if_neg (fun h => h10 ((c10 c).1 h)), if_pos (by omega), if_pos (by omega), if_pos (by omega), e1]
    · obtain rfl : d = 0 := by omega
      have he : (B s).drop n = [] := List.drop_of_length_le (by omega)
      have e1 : ints acc ++ [34] = ints (acc ++ [34]) := take_nums acc 34
      simp only [labels_Quote.l0]
      rw [if_neg (by omega), he, if_pos (by omega), e1, strOf]
      simp
theorem Quote_ev (s : ByteArray) (hs : s.size ≤ 1000000000000) : Ev (fun k => labels_Quote.f k s) (str (quoteL (B s))) :=
  Ev.at (2 * s.size + 1) (fun k hk => Quote_l0 s hs s.size 0 k [34] (by omega) (Nat.le_refl _) hk)
abbrev Lab := S66
theorem rdn (l : List Lab) (n : Nat) : rd_T66 l (n : Int) = l.getD n z66 := by unfold rd_T66; rw [Int.toNat_natCast]
theorem dropS (l : List Lab) (n : Nat) (h : n < l.length) : l.drop n = l.getD n z66 :: l.drop (n + 1) := by
  rw [List.drop_eq_getElem_cons h, List.getD_eq_getElem?_getD, List.getElem?_eq_getElem h]
  rfl
def pr (x : Lab) : Str × Str := (B x.f0, B x.f1)
theorem pr_inj {x y : Lab} (h : pr x = pr y) : x = y := by
  obtain ⟨a, b⟩ := x
  obtain ⟨c, d⟩ := y
  have h1 : a = c := B_inj (congrArg Prod.fst h)
  have h2 : b = d := B_inj (congrArg Prod.snd h)
  rw [h1, h2]
theorem prs_inj {a b : List Lab} (h : a.map pr = b.map pr) : a = b := by
  induction a generalizing b with
  | nil => cases b with
    | nil => rfl
    | cons _ _ => cases h
  | cons x a ih => cases b with
    | nil => cases h
    | cons y b =>
      injection h with h1 h2
      rw [pr_inj h1, ih h2]
def sameB (a b : List Lab) : Bool := decide (a.map pr = b.map pr)
theorem ne_test (x y : Lab) : ((!(x.f0.toList == y.f0.toList) || (!(x.f1.toList == y.f1.toList))) = true) ↔ ¬ pr x = pr y := by
  rw [toList_B, toList_B, toList_B, toList_B]
  unfold pr
  rw [Prod.mk.injEq]
  simp only [Bool.or_eq_true, Bool.not_eq_true', beq_eq_false_iff_ne, ne_eq]
  exact Decidable.not_and_iff_or_not.symm
theorem Same_l0 (a b : List Lab) (hs : a.length ≤ 1000000000000) (hab : a.length = b.length) : ∀ (d n k : Nat), n + d = a.length → d < k →
    labels_Same.l0 k a b (a.length : Int) (n : Int) = some (decide ((a.drop n).map pr = (b.drop n).map pr)) ∧ manometerref05_Same.l0 k a b (a.length : Int) (n : Int) = some (decide ((a.drop n).map pr = (b.drop n).map pr))
  | d, n, k, hd, hk => by
    obtain ⟨k, rfl⟩ := succ_of hk
    by_cases hlt : n < a.length
    · obtain ⟨d, rfl⟩ : ∃ e, d = e + 1 := ⟨d - 1, by omega⟩
      obtain ⟨ih1, ih2⟩ := Same_l0 a b hs hab d (n + 1) k (by omega) (by omega)
      rw [dropS a n hlt, dropS b n (by omega), List.map_cons, List.map_cons]
      simp only [labels_Same.l0, manometerref05_Same.l0]
      rw [if_pos (by omega), if_pos (by omega), if_pos (by omega), if_pos (by omega), rdn, rdn, w1 n (by omega), ih1, ih2]
      rw [if_pos (show (n : Int) < (a.length : Int) by omega), if_pos (show (0 : Int) ≤ (n : Int) by omega), if_pos (show (n : Int) < (a.length : Int) by omega), if_pos (show (n : Int) < (b.length : Int) by omega)]
      generalize a.getD n z66 = x
      generalize b.getD n z66 = y
      by_cases h : pr x = pr y
      · have h1 := fun z => ((ne_test x y).1 z) h
        rw [if_neg h1, h]
        simp
      · rw [if_pos ((ne_test x y).2 h)]
        simp [h]
    · rw [List.drop_of_length_le (by omega), List.drop_of_length_le (by omega)]
      simp only [labels_Same.l0, manometerref05_Same.l0]
      rw [if_neg (by omega), if_neg (by omega)]
      exact ⟨rfl, rfl⟩
theorem Same_ev (a b : List Lab) (hs : a.length ≤ 1000000000000) : Ev (fun k => labels_Same.f k a b) (sameB a b) ∧ Ev (fun k => manometerref05_Same.f k a b) (sameB a b) := by
  unfold labels_Same.f manometerref05_Same.f
  by_cases h : a.length = b.length
  · simp only [if_pos (show (a.length : Int) = (b.length : Int) by omega)]
    exact ⟨Ev.at a.length (fun k hk => (Same_l0 a b hs h a.length 0 k (by omega) hk).1), Ev.at a.length (fun k hk => (Same_l0 a b hs h a.length 0 k (by omega) hk).2)⟩
  · have hf : sameB a b = false := decide_eq_false (fun he => h (by rw [prs_inj he]))
    simp only [if_neg (show ¬ (a.length : Int) = (b.length : Int) by omega), hf]
    exact ⟨Ev.now _, Ev.now _⟩
def tc (x y : Str) : Int := if Op.bytesLess x y = true then -1 else if Op.bytesLess y x = true then 1 else 0
theorem less_irrefl : ∀ x : Str, Op.bytesLess x x = false
  | [] => rfl
  | a :: x => by
    simp only [Op.bytesLess, less_irrefl x]
    have h : ¬ a < a := by rw [UInt8.lt_iff_toNat_lt]; omega
    simp [h]
theorem less_total {x y : Str} (h1 : Op.bytesLess x y = false) (h2 : Op.bytesLess y x = false) : x = y := by
  rw [less_gt x y, h1] at h2
  simpa using h2
theorem tc_zero {x y : Str} : tc x y = 0 ↔ x = y := by
  unfold tc
  constructor
  · intro h
    cases h1 : Op.bytesLess x y with
    | true => rw [h1] at h; cases h
    | false => cases h2 : Op.bytesLess y x with
      | true => rw [h1, h2] at h; cases h
      | false => exact less_total h1 h2
  · rintro rfl
    rw [less_irrefl]
    rfl
theorem tc_cases (x y : Str) : tc x y = -1 ∨ tc x y = 0 ∨ tc x y = 1 := by
  unfold tc
  split
  · exact .inl rfl
  · split
    · exact .inr (.inr rfl)
    · exact .inr (.inl rfl)
theorem tc_lt {x y : Str} : tc x y = -1 ↔ Op.bytesLess x y = true := by
  unfold tc
  constructor
  · intro h
    cases h1 : Op.bytesLess x y with
    | true => rfl
    | false => rw [h1] at h; cases h2 : Op.bytesLess y x <;> rw [h2] at h <;> cases h
  · intro h
    rw [h]
    rfl
def cmpL : List (Str × Str) → List (Str × Str) → Int
  | [], [] => 0
  | [], _ :: _ => -1
  | _ :: _, [] => 1
  | x :: a, y :: b => if tc x.1 y.1 = 0 then (if tc x.2 y.2 = 0 then cmpL a b else tc x.2 y.2) else tc x.1 y.1
theorem mn_nat (a b : Nat) : mn (a : Int) (b : Int) = ((min a b : Nat) : Int) := by unfold mn; omega
theorem text_f (a b : ByteArray) : manometerref05_text.f a b = some (tc (B a) (B b)) := by
  unfold manometerref05_text.f tc
  rw [toList_B, toList_B]
  split
  · rfl
  · split <;> rfl
theorem rest_len (a b : List Lab) (n : Nat) (ha : n ≤ a.length) (hb : n ≤ b.length) (h : n = a.length ∨ n = b.length) :
    (if (a.length : Int) < (b.length : Int) then (some (-1)) else (if (a.length : Int) > (b.length : Int) then (some 1) else (some (0 : Int)))) = some (cmpL ((a.drop n).map pr) ((b.drop n).map pr)) := by
  rcases Nat.lt_or_ge n a.length with h1 | h1
  · have h2 : b.length ≤ n := by omega
    rw [dropS a n h1, List.drop_of_length_le h2, if_neg (by omega), if_pos (by omega)]
    rfl
  · rw [List.drop_of_length_le h1]
    rcases Nat.lt_or_ge n b.length with h2 | h2
    · rw [dropS b n h2, if_pos (by omega)]
      rfl
    · rw [List.drop_of_length_le h2, if_neg (by omega), if_neg (by omega)]
      rfl
theorem cmp_pr (x y : Lab) (a b : List (Str × Str)) : cmpL (pr x :: a) (pr y :: b) = if tc (B x.f0) (B y.f0) = 0 then (if tc (B x.f1) (B y.f1) = 0 then cmpL a b else tc (B x.f1) (B y.f1)) else tc (B x.f0) (B y.f0) := by
  rw [cmpL]
  rfl
theorem ref_Compare_l0 (a b : List Lab) (m : Nat) (hs : a.length ≤ 1000000000000) (ha : m ≤ a.length) (hb : m ≤ b.length) (he : m = a.length ∨ m = b.length) : ∀ (d n k : Nat), n + d = m → d < k →
    manometerref05_Compare.l0 k a b (m : Int) (n : Int) = some (cmpL ((a.drop n).map pr) ((b.drop n).map pr))
  | d, n, k, hd, hk => by
    obtain ⟨k, rfl⟩ := succ_of hk
    by_cases hlt : n < m
    · obtain ⟨d, rfl⟩ : ∃ e, d = e + 1 := ⟨d - 1, by omega⟩
      have ih := ref_Compare_l0 a b m hs ha hb he d (n + 1) k (by omega) (by omega)
      rw [dropS a n (by omega), dropS b n (by omega), List.map_cons, List.map_cons]
      simp only [manometerref05_Compare.l0]
      rw [if_pos (by omega), if_pos (by omega), if_pos (by omega), if_pos (by omega), rdn, rdn, w1 n (by omega), ih, text_f, Option.bind_some, text_f]
      generalize a.getD n z66 = x
      generalize b.getD n z66 = y
      rw [cmp_pr]
      by_cases h1 : tc (B x.f0) (B y.f0) = 0
      · rw [if_pos h1, if_pos h1, Option.bind_some]
        by_cases h2 : tc (B x.f1) (B y.f1) = 0
        · rw [if_pos h2, if_pos h2]
        · rw [if_neg h2, if_neg h2]
      · rw [if_neg h1, if_neg h1]
    · have hn : n = m := by omega
      subst hn
      rw [← rest_len a b n ha hb he]
      simp only [manometerref05_Compare.l0]
      rw [if_neg (by omega)]
theorem Compare_l0 (a b : List Lab) (m : Nat) (hs : a.length ≤ 1000000000000) (ha : m ≤ a.length) (hb : m ≤ b.length) (he : m = a.length ∨ m = b.length) : ∀ (d n k : Nat), n + d = m → 2 * d + 1 < k →
    labels_Compare.l0 k a b (m : Int) (n : Int) = some (cmpL ((a.drop n).map pr) ((b.drop n).map pr))
  | d, n, k, hd, hk => by
    obtain ⟨k, rfl⟩ : ∃ j, k = j + 2 := ⟨k - 2, by omega⟩
    by_cases hlt : n < m
    · obtain ⟨d, rfl⟩ : ∃ e, d = e + 1 := ⟨d - 1, by omega⟩
      have ih := Compare_l0 a b m hs ha hb he d (n + 1) k (by omega) (by omega)
      rw [dropS a n (by omega), dropS b n (by omega), List.map_cons, List.map_cons]
      simp only [labels_Compare.l0, labels_Compare.j1]
      rw [if_pos (by omega), if_pos (by omega), if_pos (by omega), if_pos (by omega), rdn, rdn, w1 n (by omega), ih]
      generalize a.getD n z66 = x
      generalize b.getD n z66 = y
      rw [cmp_pr]
      simp only [toList_B]
      cases h1 : Op.bytesLess (B x.f0) (B y.f0) with
      | true =>
        have e1 : tc (B x.f0) (B y.f0) = -1 := tc_lt.2 h1
        rw [if_pos (by simp), if_pos (by simp), e1, if_neg (by decide)]
      | false =>
        rw [if_neg (by simp)]
        by_cases h2 : B x.f0 = B y.f0
        · have e1 : tc (B x.f0) (B y.f0) = 0 := tc_zero.2 h2
          rw [if_pos h2, if_pos e1]
          cases h3 : Op.bytesLess (B x.f1) (B y.f1) with
          | true =>
            have e2 : tc (B x.f1) (B y.f1) = -1 := tc_lt.2 h3
            rw [if_pos (by simp), e2, if_neg (by decide)]
          | false =>
            rw [if_neg (by simp)]
            by_cases h4 : B x.f1 = B y.f1
            · have e2 : tc (B x.f1) (B y.f1) = 0 := tc_zero.2 h4
              rw [if_pos e2, h2, h4, if_neg (by simp)]
            · have e2 : tc (B x.f1) (B y.f1) ≠ 0 := fun h => h4 (tc_zero.1 h)
              have e3 : tc (B x.f1) (B y.f1) = 1 := by
                rcases tc_cases (B x.f1) (B y.f1) with h | h | h
                · rw [tc_lt.1 h] at h3; cases h3
                · exact absurd h e2
                · exact h
              rw [if_neg e2, e3, if_pos (by simp [h4])]
        · have e1 : tc (B x.f0) (B y.f0) ≠ 0 := fun h => h2 (tc_zero.1 h)
          have e3 : tc (B x.f0) (B y.f0) = 1 := by
            rcases tc_cases (B x.f0) (B y.f0) with h | h | h
            · rw [tc_lt.1 h] at h1; cases h1
            · exact absurd h e1
            · exact h
          rw [if_neg h2, if_neg e1, e3, if_neg (by simp), if_pos (by simp [h2])]
    · have hn : n = m := by omega
      subst hn
      rw [← rest_len a b n ha hb he]
      simp only [labels_Compare.l0]
      rw [if_neg (by omega)]
def cmpB (a b : List Lab) : Int := cmpL (a.map pr) (b.map pr)
theorem Compare_ev (a b : List Lab) (hs : a.length ≤ 1000000000000) : Ev (fun k => labels_Compare.f k a b) (cmpB a b) ∧ Ev (fun k => manometerref05_Compare.f k a b) (cmpB a b) := by
  unfold labels_Compare.f manometerref05_Compare.f
  rw [mn_nat]
  have h1 : min a.length b.length = a.length ∨ min a.length b.length = b.length := by omega
  exact ⟨Ev.at (2 * min a.length b.length + 1) (fun k hk => Compare_l0 a b _ hs (by omega) (by omega) h1 (min a.length b.length) 0 k (by omega) hk),
    Ev.at (min a.length b.length) (fun k hk => ref_Compare_l0 a b _ hs (by omega) (by omega) h1 (min a.length b.length) 0 k (by omega) hk)⟩
def Sm (l : List Lab) : Prop := l.length ≤ 100000 ∧ ∀ x ∈ l, x.f0.size ≤ 100000 ∧ x.f1.size ≤ 100000
theorem Sm.at {l : List Lab} (h : Sm l) (n : Nat) (hn : n < l.length) : (l.getD n z66).f0.size ≤ 100000 ∧ (l.getD n z66).f1.size ≤ 100000 := by
  rw [List.getD_eq_getElem?_getD, List.getElem?_eq_getElem hn]
  exact h.2 _ (List.getElem_mem hn)
def wrongB (e : Bool) (x : Lab) : Int := if namedB (B x.f0) = true then (if valuedB (B x.f1) = true then (if e = true then 0 else (if B x.f1 = [] then 51 else 0)) else 51) else 50
theorem wrong_f (x : Lab) (e : Bool) (h0 : x.f0.size ≤ 100000) (h1 : x.f1.size ≤ 100000) : labels_wrong.f x.f0 x.f1 e = some (wrongB e x) := by
  unfold labels_wrong.f wrongB
  rw [pNamed_f _ (by omega), pValued_f _ (by omega), toList_B]
  simp only [Option.bind_some]
  split <;> (try rfl)
  split <;> (try rfl)
  split <;> (try rfl)
  split <;> rfl
def rgt : Option Str → List Lab → Int
  | _, [] => 0
  | p, x :: l => if wrongB false x = 0 then (if (match p with | none => false | some q => Op.bytesLess (B x.f0) q || decide (B x.f0 = q)) = true then 53 else rgt (some (B x.f0)) l) else wrongB false x
def pv (l : List Lab) (n : Nat) : Option Str := if n = 0 then none else some (B (l.getD (n - 1) z66).f0)
def rightB (l : List Lab) : Int := if l.length ≤ 16 then rgt none l else 3
theorem wm1 (n : Nat) (h : n ≤ 9000000000000000000) : wrap64 (((n + 1 : Nat) : Int) - 1) = (n : Int) := wn (by omega) (by omega)
theorem Right_l0 (l : List Lab) (hs : Sm l) : ∀ (d n : Nat), n + d = l.length →
    Ev (fun k => labels_Right.l0 k l l (l.length : Int) (n : Int)) (rgt (pv l n) (l.drop n))
  | d, n, hd => by
    have hl := hs.1
    refine Ev.step (f := _) (fun k => by simp only [labels_Right.l0]; rfl) ?_
    by_cases hlt : n < l.length
    · obtain ⟨d, rfl⟩ : ∃ e, d = e + 1 := ⟨d - 1, by omega⟩
      have ih := Right_l0 l hs d (n + 1) (by omega)
      obtain ⟨s0, s1⟩ := hs.at n hlt
      have hp : pv l (n + 1) = some (B (l.getD n z66).f0) := by unfold pv; rw [if_neg (by omega)]; rfl
      rw [hp] at ih
      rw [dropS l n hlt]
      have e1 : (n : Int) < (l.length : Int) := by omega
      have e2 : (0 : Int) ≤ (n : Int) := by omega
      simp only [if_pos e1, if_pos e2, rdn, w1 n (by omega), wrong_f _ _ s0 s1, Option.bind_some, rgt]
      by_cases hw : wrongB false (l.getD n z66) = 0
      · simp only [if_pos hw]
        cases n with
        | zero =>
          simp only [if_neg (show ¬ ((0 : Nat) : Int) > 0 by omega)]
          exact ih
        | succ m =>
          have hq : pv l (m + 1) = some (B (l.getD m z66).f0) := by unfold pv; rw [if_neg (by omega)]; rfl
          have e3 : ((m + 1 : Nat) : Int) > 0 := by omega
          have e4 : (0 : Int) ≤ (m : Int) := by omega
          have e5 : (m : Int) < (l.length : Int) := by omega
          simp only [if_pos e3, wm1 m (by omega), if_pos e4, if_pos e5, rdn, hq, toList_B]
          by_cases h1 : Op.bytesLess (B (l.getD (m + 1) z66).f0) (B (l.getD m z66).f0) = true
          · simp only [h1, if_true, Bool.true_or]
            exact Ev.now _
          · have h1' : Op.bytesLess (B (l.getD (m + 1) z66).f0) (B (l.getD m z66).f0) = false := by simpa using h1
            simp only [h1', Bool.false_eq_true, if_false, Bool.false_or, decide_eq_true_eq]
            by_cases h2 : B (l.getD (m + 1) z66).f0 = B (l.getD m z66).f0
            · simp only [if_pos h2]
              exact Ev.now _
            · simp only [if_neg h2]
              exact ih
      · simp only [if_neg hw]
        exact Ev.now _
    · rw [List.drop_of_length_le (by omega)]
      simp only [if_neg (show ¬ (n : Int) < (l.length : Int) by omega)]
      exact Ev.now _
theorem RRight_l0 (l : List Lab) (hs : Sm l) : ∀ (d n : Nat), n + d = l.length →
    Ev (fun k => manometerref05_Right.l0 k l l (l.length : Int) (n : Int)) (rgt (pv l n) (l.drop n))
  | d, n, hd => by
    have hl := hs.1
    refine Ev.step (f := _) (fun k => by simp only [manometerref05_Right.l0]; rfl) ?_
    by_cases hlt : n < l.length
    · obtain ⟨d, rfl⟩ : ∃ e, d = e + 1 := ⟨d - 1, by omega⟩
      have ih := RRight_l0 l hs d (n + 1) (by omega)
      obtain ⟨s0, s1⟩ := hs.at n hlt
      have hp : pv l (n + 1) = some (B (l.getD n z66).f0) := by unfold pv; rw [if_neg (by omega)]; rfl
      rw [hp] at ih
      rw [dropS l n hlt]
      have e1 : (n : Int) < (l.length : Int) := by omega
      have e2 : (0 : Int) ≤ (n : Int) := by omega
      simp only [if_pos e1, if_pos e2, rdn, rgt, wrongB]
      refine Ev.bind (Named_ev _ (by omega)) ?_
      by_cases hn : namedB (B (l.getD n z66).f0) = true
      · simp only [if_pos hn]
        refine Ev.bind (Valued_ev _ (by omega)) ?_
        have j1t : Ev (fun k => manometerref05_Right.j1 k l (n : Int) l (l.length : Int) (n : Int) true (l.getD n z66).f0 (l.getD n z66).f1) 51 := by
          refine Ev.step (f := _) (fun k => by simp only [manometerref05_Right.j1]; rfl) ?_
          simp only [if_true]
          exact Ev.now _
        by_cases hv : valuedB (B (l.getD n z66).f1) = true
        · simp only [if_pos hv, toList_B, Bool.false_eq_true, if_false]
          by_cases he : B (l.getD n z66).f1 = []
          · have : (B (l.getD n z66).f1 == ([] : Str)) = true := by rw [he]; rfl
            simp only [this, if_pos he, if_neg (show ¬ (51 : Int) = 0 by omega)]
            exact j1t
          · have : (B (l.getD n z66).f1 == ([] : Str)) = false := by simpa using he
            simp only [this, if_neg he, if_true]
            refine Ev.step (f := _) (fun k => by simp only [manometerref05_Right.j1]; rfl) ?_
            simp only [Bool.false_eq_true, if_false, w1 n (by omega)]
            cases n with
            | zero =>
              simp only [if_neg (show ¬ ((0 : Nat) : Int) > 0 by omega)]
              exact ih
            | succ m =>
              have hq : pv l (m + 1) = some (B (l.getD m z66).f0) := by unfold pv; rw [if_neg (by omega)]; rfl
              have e3 : ((m + 1 : Nat) : Int) > 0 := by omega
              have e4 : (0 : Int) ≤ (m : Int) := by omega
              have e5 : (m : Int) < (l.length : Int) := by omega
              simp only [if_pos e3, wm1 m (by omega), if_pos e4, if_pos e5, rdn, hq, toList_B]
              by_cases h1 : Op.bytesLess (B (l.getD (m + 1) z66).f0) (B (l.getD m z66).f0) = true
              · simp only [h1, if_true, Bool.true_or]
                exact Ev.now _
              · have h1' : Op.bytesLess (B (l.getD (m + 1) z66).f0) (B (l.getD m z66).f0) = false := by simpa using h1
                simp only [h1', Bool.false_eq_true, if_false, Bool.false_or, decide_eq_true_eq]
                by_cases h2 : B (l.getD (m + 1) z66).f0 = B (l.getD m z66).f0
                · simp only [if_pos h2]
                  exact Ev.now _
                · simp only [if_neg h2]
                  exact ih
        · simp only [if_neg hv, if_neg (show ¬ (51 : Int) = 0 by omega)]
          exact j1t
      · simp only [if_neg hn, if_neg (show ¬ (50 : Int) = 0 by omega)]
        exact Ev.now _
    · rw [List.drop_of_length_le (by omega)]
      simp only [if_neg (show ¬ (n : Int) < (l.length : Int) by omega)]
      exact Ev.now _
theorem Right_ev (l : List Lab) (hs : Sm l) : Ev (fun k => labels_Right.f k l) (rightB l) ∧ Ev (fun k => manometerref05_Right.f k l) (rightB l) := by
  unfold labels_Right.f manometerref05_Right.f rightB
  by_cases h : l.length ≤ 16
  · simp only [if_neg (show ¬ (l.length : Int) > 16 by omega), if_pos h]
    exact ⟨Right_l0 l hs l.length 0 (by omega), RRight_l0 l hs l.length 0 (by omega)⟩
  · simp only [if_pos (show (l.length : Int) > 16 by omega), if_neg h]
    exact ⟨Ev.now _, Ev.now _⟩
theorem size_str (l : Str) : (str l).size = l.length := by rw [← B_length, B_str]
def hd (c : UInt8) : Str → Bool
  | [] => false
  | b :: _ => b == c
theorem Sm.nil : Sm [] := ⟨by simp, fun x hx => by simp at hx⟩
def item (x : Lab) : Str := B x.f0 ++ 61 :: quoteL (B x.f1)
def tailB (l : List Lab) : Str := l.flatMap fun x => 44 :: 32 :: item x
def bodyB : List Lab → Str
  | [] => []
  | x :: l => item x ++ tailB l
def printL (l : List Lab) : Str := 123 :: (bodyB l ++ [125])
theorem quoteL_le (l : Str) : (quoteL l).length ≤ 2 * l.length + 2 := by
  unfold quoteL
  have : (l.flatMap esc).length ≤ 2 * l.length := by
    induction l with
    | nil => simp
    | cons c l ih =>
      rw [List.flatMap_cons, List.length_append, List.length_cons]
      have := esc_length c
      omega
  simp only [List.length_append, List.length_cons, List.length_nil]
  omega
theorem quo_ev (s : ByteArray) (hs : s.size ≤ 1000000) : Ev (fun k => labels_Quote.f k s) (str (quoteL (B s))) := Quote_ev s (by omega)
theorem Print_pos (l : List Lab) (hs : Sm l) : ∀ (d n : Nat) (acc : ByteArray), n + d = l.length → 0 < n → acc.size ≤ 1000000 * n → Ev (fun k => labels_Print.l0 k acc l (l.length : Int) (n : Int)) (str (B acc ++ tailB (l.drop n) ++ [125]))
  | d, n, acc, hd, hn, ha => by
    have hl := hs.1
    by_cases hlt : n < l.length
    · obtain ⟨d, rfl⟩ : ∃ e, d = e + 1 := ⟨d - 1, by omega⟩
      obtain ⟨s0, s1⟩ := hs.at n hlt
      rw [dropS l n hlt]
      have e1 : (n : Int) < (l.length : Int) := by omega
      have e2 : (0 : Int) ≤ (n : Int) := by omega
      have e3 : (n : Int) > 0 := by omega
      have q1 := quo_ev (l.getD n z66).f1 (by omega)
      have ih := Print_pos l hs d (n + 1)
      have hq := quoteL_le (B (l.getD n z66).f1)
      rw [B_length] at hq
      have es : ∀ x : Lab, tailB (x :: l.drop (n + 1)) = 44 :: 32 :: item x ++ tailB (l.drop (n + 1)) := fun x => by unfold tailB; rw [List.flatMap_cons]
      generalize hx : l.getD n z66 = x at *
      have m1 : (acc ++ (⟨#[44, 32]⟩ : ByteArray)).size = acc.size + 2 := by rw [ByteArray.size_append]; rfl
      have m2 : (x.f0 ++ (⟨#[61]⟩ : ByteArray)).size = x.f0.size + 1 := by rw [ByteArray.size_append]; rfl
      have m3 := size_str (quoteL (B x.f1))
      have m4 : ((x.f0 ++ (⟨#[61]⟩ : ByteArray)) ++ str (quoteL (B x.f1))).size = x.f0.size + 1 + (quoteL (B x.f1)).length := by rw [ByteArray.size_append, m2, m3]
      have m5 : ((acc ++ (⟨#[44, 32]⟩ : ByteArray)) ++ ((x.f0 ++ (⟨#[61]⟩ : ByteArray)) ++ str (quoteL (B x.f1)))).size = acc.size + 2 + (x.f0.size + 1 + (quoteL (B x.f1)).length) := by rw [ByteArray.size_append, m1, m4]
      have c1 : acc.size + 2 ≤ 9223372036854775807 := by omega
      have c2 : x.f0.size + 1 ≤ 9223372036854775807 := by omega
      have c3 : (x.f0 ++ (⟨#[61]⟩ : ByteArray)).size + (str (quoteL (B x.f1))).size ≤ 9223372036854775807 := by rw [m2, m3]; omega
      have c4 : (acc ++ (⟨#[44, 32]⟩ : ByteArray)).size + ((x.f0 ++ (⟨#[61]⟩ : ByteArray)) ++ str (quoteL (B x.f1))).size ≤ 9223372036854775807 := by rw [m1, m4]; omega
      have i1 := ih ((acc ++ (⟨#[44, 32]⟩ : ByteArray)) ++ ((x.f0 ++ (⟨#[61]⟩ : ByteArray)) ++ str (quoteL (B x.f1)))) (by omega) (by omega) (by rw [m5]; omega)
      have eb : B ((acc ++ (⟨#[44, 32]⟩ : ByteArray)) ++ ((x.f0 ++ (⟨#[61]⟩ : ByteArray)) ++ str (quoteL (B x.f1)))) ++ tailB (l.drop (n + 1)) ++ [125] = B acc ++ tailB (x :: l.drop (n + 1)) ++ [125] := by
        rw [es]
        unfold item
        simp only [B_append, B_str, B_mk]
        simp
      rw [eb] at i1
      · refine Ev.step (f := _) (fun k => by simp only [labels_Print.l0]; rfl) ?_
        simp only [if_pos e1, if_pos e2, if_pos e3, rdn, hx, if_pos c1, if_pos c2, w1 n (by omega)]
        refine q1.bind ?_
        simp only [if_pos c3, if_pos c4]
        exact i1
    · rw [List.drop_of_length_le (by omega)]
      have c1 : acc.size + 1 ≤ 9223372036854775807 := by omega
      have e1 : ¬ (n : Int) < (l.length : Int) := by omega
      have eb : str (B acc ++ tailB [] ++ [125]) = acc ++ (⟨#[125]⟩ : ByteArray) := B_inj (by rw [B_str, B_append]; unfold tailB; simp [B])
      rw [eb]
      · refine Ev.step (f := _) (fun k => by simp only [labels_Print.l0]; rfl) ?_
        simp only [if_neg e1, if_pos c1]
        exact Ev.now _
theorem Print_ev (l : List Lab) (hs : Sm l) : Ev (fun k => labels_Print.f k l) (str (printL l)) := by
  have hl := hs.1
  unfold labels_Print.f
  cases l with
  | nil =>
    · refine Ev.step (f := _) (fun k => by simp only [labels_Print.l0]; rfl) ?_
      exact Ev.now _
  | cons x l =>
    obtain ⟨s0, s1⟩ := hs.2 x List.mem_cons_self
    have e1 : (0 : Int) < ((x :: l).length : Int) := by rw [List.length_cons]; omega
    have q1 := quo_ev x.f1 (by omega)
    have hq := quoteL_le (B x.f1)
    rw [B_length] at hq
    have er : rd_T66 (x :: l) 0 = x := rfl
    have m1 : ((⟨#[123]⟩ : ByteArray)).size = 1 := rfl
    have m2 : (x.f0 ++ (⟨#[61]⟩ : ByteArray)).size = x.f0.size + 1 := by rw [ByteArray.size_append]; rfl
    have m3 := size_str (quoteL (B x.f1))
    have m4 : ((x.f0 ++ (⟨#[61]⟩ : ByteArray)) ++ str (quoteL (B x.f1))).size = x.f0.size + 1 + (quoteL (B x.f1)).length := by rw [ByteArray.size_append, m2, m3]
    have m5 : ((⟨#[123]⟩ : ByteArray) ++ ((x.f0 ++ (⟨#[61]⟩ : ByteArray)) ++ str (quoteL (B x.f1)))).size = 1 + (x.f0.size + 1 + (quoteL (B x.f1)).length) := by rw [ByteArray.size_append, m1, m4]
    have c2 : x.f0.size + 1 ≤ 9223372036854775807 := by omega
    have c3 : (x.f0 ++ (⟨#[61]⟩ : ByteArray)).size + (str (quoteL (B x.f1))).size ≤ 9223372036854775807 := by rw [m2, m3]; omega
    have c4 : ((⟨#[123]⟩ : ByteArray)).size + ((x.f0 ++ (⟨#[61]⟩ : ByteArray)) ++ str (quoteL (B x.f1))).size ≤ 9223372036854775807 := by rw [m1, m4]; omega
    have ew : wrap64 ((0 : Int) + 1) = ((1 : Nat) : Int) := wn (by decide) (by decide)
    have i1 := Print_pos (x :: l) hs l.length 1 ((⟨#[123]⟩ : ByteArray) ++ ((x.f0 ++ (⟨#[61]⟩ : ByteArray)) ++ str (quoteL (B x.f1)))) (by rw [List.length_cons]; omega) (by omega) (by rw [m5]; omega)
    have eb : B ((⟨#[123]⟩ : ByteArray) ++ ((x.f0 ++ (⟨#[61]⟩ : ByteArray)) ++ str (quoteL (B x.f1)))) ++ tailB ((x :: l).drop 1) ++ [125] = printL (x :: l) := by
      unfold printL bodyB item
      simp only [B_append, B_str, B_mk]
      simp
    rw [eb] at i1
    · refine Ev.step (f := _) (fun k => by simp only [labels_Print.l0]; rfl) ?_
      simp only [if_pos e1, if_pos (Int.le_refl 0), if_neg (show ¬ (0 : Int) > 0 by omega), er, if_pos c2, ew]
      refine q1.bind ?_
      simp only [if_pos c3, if_pos c4]
      exact i1
end Go.Proofs.YtbpmgaaipkenkaaDoor.Pv
