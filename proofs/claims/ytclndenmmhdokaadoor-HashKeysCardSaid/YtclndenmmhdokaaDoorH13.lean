/- The document's words. -/
import Derived.Test.YtclndenmmhdokaaDoorH12
import Derived.Test.YtclndenmmhdokaaDoorE2
namespace Go.Proofs.YtclndenmmhdokaaDoor
open Go Go.RowKit Go.Proofs.YtclndenmmhdokaaDoorW.PrintWords Go.Proofs.YtclndenmmhdokaaDoorW.PrintMore Go.Proofs.YtclndenmmhdokaaDoorW.PrintLast Bq
set_option linter.unusedVariables false
set_option linter.unusedSimpArgs false
attribute [local go_sem ↓] Go.wp_at_zero Go.wp_at_succ

theorem or_u32 (a b : Nat) (k : Nat) (hb : b < 2 ^ k) (h : a * 2 ^ k + b < 4294967296) : bits .or .u32 ((a * 2 ^ k : Nat) : Int) (b : Int) = ((a * 2 ^ k + b : Nat) : Int) := by
  have h1 : a * 2 ^ k < 2 ^ 32 := by omega
  have h2 : b < 2 ^ 32 := by omega
  rw [(bits_nat .u32 32 (by decide) (fun m a b => by rw [IntKind.wrap_u32]; omega) (a * 2 ^ k) b h1 h2).2]
  congr 1
  rw [Nat.mul_comm, ← Nat.two_pow_add_eq_or_of_lt hb]
theorem or_u32' (a b k p : Nat) (hp : 2 ^ k = p) (hb : b < p) (h : a * p + b < 4294967296) : bits .or .u32 ((a * p : Nat) : Int) (b : Int) = ((a * p + b : Nat) : Int) := by
  subst hp
  exact or_u32 a b k hb h
set_option maxRecDepth 20000 in
theorem word4 (x0 x1 x2 x3 : Nat) (h0 : x0 < 256) (h1 : x1 < 256) (h2 : x2 < 256) (h3 : x3 < 256) :
    bits .or .u32 (bits .or .u32 (bits .or .u32 ((x0 : Int) * 16777216 % 4294967296) ((x1 : Int) * 65536 % 4294967296)) ((x2 : Int) * 256 % 4294967296)) (x3 : Int) = ((((x0 * 256 + x1) * 256 + x2) * 256 + x3 : Nat) : Int) := by
  have e0 : (x0 : Int) * 16777216 % 4294967296 = ((x0 * 16777216 : Nat) : Int) := by omega
  have e1 : (x1 : Int) * 65536 % 4294967296 = ((x1 * 65536 : Nat) : Int) := by omega
  have e2 : (x2 : Int) * 256 % 4294967296 = ((x2 * 256 : Nat) : Int) := by omega
  rw [e0, e1, e2]
  clear e0 e1 e2
  obtain ⟨a, ha⟩ : ∃ a, a = x0 * 256 + x1 := ⟨_, rfl⟩
  obtain ⟨b, hb⟩ : ∃ b, b = a * 256 + x2 := ⟨_, rfl⟩
  have f2 : x0 * 16777216 + x1 * 65536 = a * 65536 := by rw [ha, Nat.add_mul, Nat.mul_assoc]
  have f4 : a * 65536 + x2 * 256 = b * 256 := by rw [hb, Nat.add_mul, Nat.mul_assoc]
  have ha2 : a < 65536 := by omega
  have hb2 : b < 16777216 := by omega
  have hl : ∀ x y p q : Nat, x < q → y < p → x * p + y < q * p := fun x y p q hx hy => by
    have := Nat.mul_le_mul_right p (Nat.succ_le_of_lt hx)
    rw [Nat.succ_mul] at this
    exact Nat.lt_of_lt_of_le (Nat.add_lt_add_left hy _) this
  have g1 : x1 * 65536 < 16777216 := by omega
  have g2 : x0 * 16777216 + x1 * 65536 < 4294967296 := hl x0 _ 16777216 256 h0 g1
  have g3 : x2 * 256 < 65536 := by omega
  have g4 : a * 65536 + x2 * 256 < 4294967296 := hl a _ 65536 65536 ha2 g3
  have g5 : b * 256 + x3 < 4294967296 := hl b x3 256 16777216 hb2 h3
  have f1 := or_u32' x0 (x1 * 65536) 24 16777216 (by simp) g1 g2
  have f3 := or_u32' a (x2 * 256) 16 65536 (by simp) g3 g4
  have f5 := or_u32' b x3 8 256 (by simp) h3 g5
  rw [f1, f2, f3, f4, f5, hb, ha]
theorem word_be (xs : List Int) (hb : Byts xs) (t : Nat) (h : 4 * t + 4 ≤ xs.length) : Sha.word xs t = (be ((xs.take (4 * t + 4)).drop (4 * t)) : Nat) := by
  obtain ⟨x0, h0⟩ : ∃ x : Nat, xs.getD (4 * t) 0 = x ∧ x < 256 := by
    have := hb.get (4 * t) (by omega)
    exact ⟨(xs.getD (4 * t) 0).toNat, by omega, by omega⟩
  obtain ⟨x1, h1⟩ : ∃ x : Nat, xs.getD (4 * t + 1) 0 = x ∧ x < 256 := by
    have := hb.get (4 * t + 1) (by omega)
    exact ⟨(xs.getD (4 * t + 1) 0).toNat, by omega, by omega⟩
  obtain ⟨x2, h2⟩ : ∃ x : Nat, xs.getD (4 * t + 2) 0 = x ∧ x < 256 := by
    have := hb.get (4 * t + 2) (by omega)
    exact ⟨(xs.getD (4 * t + 2) 0).toNat, by omega, by omega⟩
  obtain ⟨x3, h3⟩ : ∃ x : Nat, xs.getD (4 * t + 3) 0 = x ∧ x < 256 := by
    have := hb.get (4 * t + 3) (by omega)
    exact ⟨(xs.getD (4 * t + 3) 0).toNat, by omega, by omega⟩
  have hd : (xs.take (4 * t + 4)).drop (4 * t) = [(x0 : Int), x1, x2, x3] := by
    have hq : 4 * t + 4 ≤ xs.length := h
    have h0 := h0.1
    have h1 := h1.1
    have h2 := h2.1
    have h3 := h3.1
    generalize 4 * t = p at hq h0 h1 h2 h3 ⊢
    have key : ∀ k, k < 4 → ((xs.take (p + 4)).drop p)[k]? = some (xs.getD (p + k) 0) := fun k hk => by
      have hlt : p + k < xs.length := by omega
      rw [List.getElem?_drop, List.getElem?_take_of_lt (by omega), List.getD_eq_getElem?_getD, List.getElem?_eq_getElem hlt]
      rfl
    apply List.ext_getElem?
    intro i
    rcases (by omega : i = 0 ∨ i = 1 ∨ i = 2 ∨ i = 3 ∨ 4 ≤ i) with rfl | rfl | rfl | rfl | hi
    · exact (key 0 (by decide)).trans (congrArg some h0)
    · exact (key 1 (by decide)).trans (congrArg some h1)
    · exact (key 2 (by decide)).trans (congrArg some h2)
    · exact (key 3 (by decide)).trans (congrArg some h3)
    · rw [List.getElem?_eq_none (by rw [List.length_drop, List.length_take]; omega), List.getElem?_eq_none (by simp only [List.length_cons, List.length_nil]; omega)]
  rw [hd]
  unfold Sha.word be
  rw [h0.1, h1.1, h2.1, h3.1]
  rw [word4 x0 x1 x2 x3 h0.2 h1.2 h2.2 h3.2]
  simp only [List.foldl_cons, List.foldl_nil, Int.toNat_natCast, Nat.zero_mul, Nat.zero_add]
/-- The document's 64 words, of which t were made. -/
def wst (M : List Int) (t : Nat) : List Int := if t < 16 then M.take t ++ List.replicate (64 - t) 0 else Sha.sched M (t - 16)
theorem wst_16 (M : List Int) (h : M.length = 16) : M.take 16 ++ List.replicate (64 - 16) 0 = Sha.sched M 0 := by rw [List.take_of_length_le (by omega)]; rfl
theorem wst_length (M : List Int) (h : M.length = 16) (t : Nat) : (wst M t).length = 64 := by
  unfold wst
  split
  · rw [List.length_append, List.length_take, List.length_replicate]; omega
  · exact Sha.sched_length M h _
theorem wst_low (M : List Int) (h : M.length = 16) (t : Nat) (ht : t < 16) : (wst M t).set t (M.getD t 0) = wst M (t + 1) := by
  unfold wst
  rw [if_pos ht, take_set M t 64 (by omega) (by omega)]
  split
  · rfl
  · have : t = 15 := by omega
    subst this
    exact wst_16 M h
theorem wst_high (M : List Int) (t : Nat) (ht : ¬ t < 16) : (wst M t).set t (Sha.nxt (wst M t) t) = wst M (t + 1) := by
  unfold wst
  rw [if_neg ht, if_neg (by omega)]
  obtain ⟨i, rfl⟩ : ∃ i, t = 16 + i := ⟨t - 16, by omega⟩
  rw [show 16 + i - 16 = i by omega, show 16 + i + 1 - 16 = i + 1 by omega]
  rfl
end Go.Proofs.YtclndenmmhdokaaDoor
