import Derived.Test.YtdckhaejhfkkbaaDoorCRecordTakesQ2
import Derived.Lib.ConvBytes
import Derived.Test.YtdckhaejhfkkbaaDoorCRecordTakesWWords
import Derived.Laws.StructEq
namespace Go.Proofs.YtdckhaejhfkkbaaDoor.Bq
end Go.Proofs.YtdckhaejhfkkbaaDoor.Bq
section
namespace Go.Proofs.YtdckhaejhfkkbaaDoor
open Bq
set_option linter.unusedVariables false
theorem p128 (k : Nat) : 128 ^ (k + 1) = 128 * 128 ^ k := by rw [Nat.pow_succ, Nat.mul_comm]
theorem ug_back : ∀ (xs : List Int) (k acc : Nat), (∀ x ∈ xs, 0 ≤ x ∧ x < 256) → (ug k acc xs).2.2 = 0 →
    ∃ n : Nat, (ug k acc xs).1 = ((acc + n * 128 ^ k : Nat) : Int) ∧ (ug k acc xs).2.1 = ((k + (uv n).length : Nat) : Int) ∧ (uv n).length ≤ xs.length ∧ ints (uv n) = xs.take (uv n).length ∧ (k = 0 ∨ 0 < n)
  | [], k, acc, _, he => by
    unfold ug at he
    split at he <;> exact absurd he (by decide)
  | x :: xs, k, acc, hb, he => by
    obtain ⟨hx0, hx1⟩ := hb x (by simp)
    obtain ⟨y, rfl⟩ := Int.eq_ofNat_of_zero_le hx0
    rw [ug] at he ⊢
    split at he
    · exact absurd he (by decide)
    · rename_i h10
      rw [if_neg h10]
      split at he
      · exact absurd he (by decide)
      · rename_i h9
        rw [if_neg h9]
        split at he
        · rename_i h128
          rw [if_pos h128]
          split at he
          · exact absurd he (by decide)
          · rename_i hform
            rw [if_neg hform]
            refine ⟨y, ?_, ?_, ?_, ?_, by omega⟩
            · simp
            · rw [uv_small y (by omega)]; simp
            · rw [uv_small y (by omega)]; simp
            · rw [uv_small y (by omega)]; simp [ints]
        · rename_i h128
          rw [if_neg h128]
          obtain ⟨n, h1, h2, h3, h4, h5⟩ := ug_back xs _ _ (fun z hz => hb z (by simp [hz])) he
          have hn : 0 < n := by omega
          have e1 : ((y : Int).toNat - 128) = y - 128 := by omega
          have e2 : (128 * n + (y - 128)) % 128 + 128 = y := by omega
          have e3 : (128 * n + (y - 128)) / 128 = n := by omega
          refine ⟨128 * n + (y - 128), ?_, ?_, ?_, ?_, .inr (by omega)⟩
          · have e4 : acc + (y - 128) * 128 ^ k + n * (128 * 128 ^ k) = acc + (128 * n + (y - 128)) * 128 ^ k := by
              rw [Nat.add_mul, Nat.mul_comm 128 n, Nat.mul_assoc]
              omega
            rw [h1, e1, p128, e4]
          · rw [h2, uv_big (128 * n + (y - 128)) (by omega), e3, List.length_cons, Nat.add_assoc k 1, Nat.add_comm 1]
          · rw [uv_big (128 * n + (y - 128)) (by omega), e3]
            simpa using h3
          · rw [uv_big (128 * n + (y - 128)) (by omega), e3, e2, List.length_cons, List.take_succ_cons, ← h4]
            rfl
theorem uget_back (xs : List Int) (hb : ∀ x ∈ xs, 0 ≤ x ∧ x < 256) (he : (uget xs).2.2 = 0) :
    ∃ n : Nat, (uget xs).1 = (n : Int) ∧ (uget xs).2.1 = ((uv n).length : Int) ∧ (uv n).length ≤ xs.length ∧ ints (uv n) = xs.take (uv n).length := by
  obtain ⟨n, h1, h2, h3, h4, _⟩ := ug_back xs 0 0 hb he
  exact ⟨n, by simpa [uget] using h1, by simpa [uget] using h2, h3, h4⟩
end Go.Proofs.YtdckhaejhfkkbaaDoor
end
section
namespace Go.Proofs.YtdckhaejhfkkbaaDoor
open Go Bq
set_option linter.unusedVariables false
def Byts (xs : List Int) : Prop := ∀ x ∈ xs, 0 ≤ x ∧ x < 256
def bitAt (xs : List Int) (i : Nat) : Bool := ((xs.getD (i / 8) 0).toNat).testBit (7 - i % 8)
def bitsOf (xs : List Int) (n : Nat) : List Bool := (List.range n).map (bitAt xs)
theorem bitsOf_length (xs : List Int) (n : Nat) : (bitsOf xs n).length = n := by simp [bitsOf]
end Go.Proofs.YtdckhaejhfkkbaaDoor
end
section
namespace Go.Proofs.YtdckhaejhfkkbaaDoor.Pu
open Go Go.Proofs.YtdckhaejhfkkbaaDoor Bq
set_option linter.unusedVariables false
theorem byt_get {xs : List Int} (h : Byts xs) (i : Nat) (hi : i < xs.length) : 0 ≤ xs.getD i 0 ∧ xs.getD i 0 < 256 := by
  rw [List.getD_eq_getElem?_getD, List.getElem?_eq_getElem hi]
  exact h _ (List.getElem_mem hi)
theorem byt_drop {xs : List Int} (h : Byts xs) (n : Nat) : Byts (xs.drop n) := fun x hx => h x (List.mem_of_mem_drop hx)
theorem byt_take {xs : List Int} (h : Byts xs) (n : Nat) : Byts (xs.take n) := fun x hx => h x (List.mem_of_mem_take hx)
theorem drop_rd (xs : List Int) (i : Nat) (hi : i < xs.length) : xs.drop i = xs.getD i 0 :: xs.drop (i + 1) := by
  rw [List.drop_eq_getElem_cons hi, List.getD_eq_getElem?_getD, List.getElem?_eq_getElem hi]
  rfl
theorem wraps_u64n (n : Int) (h0 : 0 ≤ n) (h1 : n < 2 ^ 64) : IntKind.u64.wrap n = n := by
  rw [wrap_u64']
  omega
theorem comm_or (k : IntKind) (x y : Int) : bits .or k x y = bits .or k y x := by simp only [bits, BitVec.or_comm]
theorem and127n (x : Int) (h0 : 0 ≤ x) (h1 : x < 256) : bits .and .u8 x 127 = x % 128 := by
  have := bits_mask .u8 8 (by decide) wraps_u8 7 (by omega) x h0 (by omega)
  simpa using this
theorem pow7 (k : Nat) : (2 : Int) ^ (7 * k) = 128 ^ k := by rw [Int.pow_mul]; rfl
theorem val_bd (k acc : Nat) (x : Int) (hk : k < 10) (hx0 : 0 ≤ x) (hx1 : x < 256) (h9 : ¬ (k = 9 ∧ 1 < x)) (ha : acc < 128 ^ k) :
    (acc + (x % 128).toNat * 128 ^ k < 128 ^ (k + 1)) ∧ (acc + (x % 128).toNat * 128 ^ k < 18446744073709551616) := by
  have h1 : (x % 128).toNat < 128 := by omega
  constructor
  · rw [Nat.pow_succ]
    have : (x % 128).toNat * 128 ^ k ≤ 127 * 128 ^ k := Nat.mul_le_mul_right _ (by omega)
    omega
  · have hp : (128 : Nat) ^ k ≤ 128 ^ 9 := Nat.pow_le_pow_right (by decide) (by omega)
    rcases Nat.lt_or_ge k 9 with h | h
    · have hp2 : (128 : Nat) ^ k ≤ 128 ^ 8 := Nat.pow_le_pow_right (by decide) (by omega)
      have : (x % 128).toNat * 128 ^ k ≤ 127 * 128 ^ 8 := Nat.mul_le_mul (by omega) hp2
      omega
    · have hk9 : k = 9 := by omega
      subst hk9
      have : (x % 128).toNat ≤ 1 := by omega
      have : (x % 128).toNat * 128 ^ 9 ≤ 1 * 128 ^ 9 := Nat.mul_le_mul_right _ this
      omega
theorem val_shl (k : Nat) (y : Nat) : ((y : Int) * 2 ^ (7 * k)) = ((y * 128 ^ k : Nat) : Int) := by rw [pow7]; simp
theorem or_val (k acc : Nat) (x : Int) (hk : k < 10) (hx0 : 0 ≤ x) (hx1 : x < 256) (h9 : ¬ (k = 9 ∧ 1 < x)) (ha : acc < 128 ^ k) :
    bits .or .u64 (acc : Int) (IntKind.u64.wrap (x % 128 * 2 ^ (7 * k))) = ((acc + (x % 128).toNat * 128 ^ k : Nat) : Int) := by
  obtain ⟨h1, h2⟩ := val_bd k acc x hk hx0 hx1 h9 ha
  obtain ⟨y, hy⟩ := Int.eq_ofNat_of_zero_le (show 0 ≤ x % 128 by omega)
  rw [hy, Int.toNat_natCast] at h1 h2 ⊢
  rw [val_shl, wraps_u64n _ (by omega) (by omega), comm_or]
  have e3 : (2 : Nat) ^ (7 * k) = 128 ^ k := by rw [Nat.pow_mul]
  have e2 := bits_join .u64 64 (by decide) wraps_u64n (7 * k) ((y * 128 ^ k : Nat) : Int) (acc : Int) (by omega) (by
    have : y * 128 ^ k % 2 ^ (7 * k) = 0 := by rw [e3]; exact Nat.mul_mod_left _ _
    exact_mod_cast this) (by omega) (by omega) (by
    have : acc < 2 ^ (7 * k) := by rw [e3]; exact ha
    exact_mod_cast this) (by omega)
  rw [e2]
  omega
theorem add_val (k acc : Nat) (x : Int) (hk : k < 10) (hx0 : 0 ≤ x) (hx1 : x < 256) (h9 : ¬ (k = 9 ∧ 1 < x)) (ha : acc < 128 ^ k) :
    IntKind.u64.wrap ((acc : Int) + IntKind.u64.wrap (x % 128 * 2 ^ (7 * k))) = ((acc + (x % 128).toNat * 128 ^ k : Nat) : Int) := by
  obtain ⟨h1, h2⟩ := val_bd k acc x hk hx0 hx1 h9 ha
  obtain ⟨y, hy⟩ := Int.eq_ofNat_of_zero_le (show 0 ≤ x % 128 by omega)
  rw [hy, Int.toNat_natCast] at h1 h2 ⊢
  rw [val_shl, wraps_u64n ((y * 128 ^ k : Nat) : Int) (by omega) (by omega), wraps_u64n _ (by omega) (by omega)]
  omega
theorem sum_val (k acc : Nat) (x : Int) (hx0 : 0 ≤ x) (hx1 : x < 128) : ((acc + (x % 128).toNat * 128 ^ k : Nat) : Int) = (acc : Int) + x * 128 ^ k := by
  obtain ⟨y, rfl⟩ := Int.eq_ofNat_of_zero_le hx0
  rw [show ((y : Int) % 128).toNat = y by omega]
  simp
theorem more_val (k acc : Nat) (x : Int) (hx0 : 128 ≤ x) (hx1 : x < 256) : acc + (x % 128).toNat * 128 ^ k = acc + (x.toNat - 128) * 128 ^ k := by
  rw [show (x % 128).toNat = x.toNat - 128 by omega]
theorem g_stop9 (acc : Nat) (x : Int) (xs : List Int) (h : 1 < x) : ug 9 acc (x :: xs) = (0, 0, 9) := by rw [ug, if_neg (by decide), if_pos ⟨rfl, h⟩]
theorem g_form (k acc : Nat) (xs : List Int) (hk : k < 10) (h0 : 0 < k) : ug k acc (0 :: xs) = (0, 0, 8) := by rw [ug, if_neg (by omega), if_neg (by omega), if_pos (by decide), if_pos ⟨h0, rfl⟩]
theorem g_end (k acc : Nat) (x : Int) (xs : List Int) (hk : k < 10) (h9 : ¬ (k = 9 ∧ 1 < x)) (h128 : x < 128) (h0 : ¬ (0 < k ∧ x = 0)) : ug k acc (x :: xs) = ((acc : Int) + x * 128 ^ k, (k : Int) + 1, 0) := by
  rw [ug, if_neg (by omega), if_neg h9, if_pos h128, if_neg h0]
theorem g_more (k acc : Nat) (x : Int) (xs : List Int) (hk : k < 10) (h9 : ¬ (k = 9 ∧ 1 < x)) (h128 : ¬ x < 128) : ug k acc (x :: xs) = ug (k + 1) (acc + (x.toNat - 128) * 128 ^ k) xs := by
  rw [ug, if_neg (by omega), if_neg h9, if_neg h128]
theorem ug_bound : ∀ (xs : List Int) (k acc : Nat), Byts xs → k ≤ 10 → acc < 128 ^ k → 0 ≤ (ug k acc xs).1 ∧ (ug k acc xs).1 < 18446744073709551616
  | [], k, acc, _, _, _ => by
    unfold ug
    split <;> decide
  | x :: xs, k, acc, hb, hk, ha => by
    obtain ⟨x0, x1⟩ := hb x (by simp)
    by_cases h10 : 10 ≤ k
    · rw [ug, if_pos h10]
      decide
    · by_cases h9 : k = 9 ∧ 1 < x
      · rw [ug, if_neg h10, if_pos h9]
        decide
      · obtain ⟨v1, v2⟩ := val_bd k acc x (by omega) x0 x1 h9 ha
        by_cases h128 : x < 128
        · by_cases h0 : 0 < k ∧ x = 0
          · rw [ug, if_neg h10, if_neg h9, if_pos h128, if_pos h0]
            decide
          · rw [ug, if_neg h10, if_neg h9, if_pos h128, if_neg h0, ← sum_val k acc x x0 h128]
            exact ⟨by omega, by omega⟩
        · rw [ug, if_neg h10, if_neg h9, if_neg h128, ← more_val k acc x (by omega) x1]
          exact ug_bound xs (k + 1) _ (fun y hy => hb y (by simp [hy])) (by omega) v1
theorem ug_err : ∀ (xs : List Int) (k acc : Nat), ¬ (ug k acc xs).2.2 = 0 → (ug k acc xs).1 = 0 ∧ (ug k acc xs).2.1 = 0
  | [], k, acc, h => by
    unfold ug
    split <;> exact ⟨rfl, rfl⟩
  | x :: xs, k, acc, h => by
    rw [ug] at h ⊢
    by_cases h10 : 10 ≤ k
    · rw [if_pos h10]; exact ⟨rfl, rfl⟩
    · rw [if_neg h10] at h ⊢
      by_cases h9 : k = 9 ∧ 1 < x
      · rw [if_pos h9]; exact ⟨rfl, rfl⟩
      · rw [if_neg h9] at h ⊢
        by_cases h128 : x < 128
        · rw [if_pos h128] at h ⊢
          by_cases h0 : 0 < k ∧ x = 0
          · rw [if_pos h0]; exact ⟨rfl, rfl⟩
          · rw [if_neg h0] at h
            exact absurd rfl h
        · rw [if_neg h128] at h ⊢
          exact ug_err xs _ _ h
theorem uget_cases (xs : List Int) (hb : Byts xs) :
    (∃ n : Nat, uget xs = ((n : Int), ((uv n).length : Int), 0) ∧ (uv n).length ≤ xs.length ∧ Bq.ints (uv n) = xs.take (uv n).length ∧ n < 18446744073709551616) ∨ (∃ e : Int, ¬ e = 0 ∧ uget xs = (0, 0, e)) := by
  by_cases he : (uget xs).2.2 = 0
  · obtain ⟨n, h1, h2, h3, h4⟩ := uget_back xs hb he
    have h5 := (ug_bound xs 0 0 hb (by decide) (by decide)).2
    refine .inl ⟨n, ?_, h3, h4, ?_⟩
    · rw [← h1, ← h2, ← he]
    · have : (uget xs).1 < 18446744073709551616 := h5
      omega
  · obtain ⟨h1, h2⟩ := ug_err xs 0 0 he
    exact .inr ⟨(uget xs).2.2, he, by
      rw [show uget xs = ((uget xs).1, (uget xs).2.1, (uget xs).2.2) from rfl, show (uget xs).1 = 0 from h1, show (uget xs).2.1 = 0 from h2]⟩
theorem g_short (k acc : Nat) (hk : k < 10) : ug k acc [] = (0, 0, 6) := by rw [ug, if_pos hk]
theorem g_over (k acc : Nat) (xs : List Int) (hk : 10 ≤ k) : ug k acc xs = (0, 0, 9) := by
  cases xs with
  | nil => rw [ug, if_neg (by omega)]
  | cons x xs => rw [ug, if_pos hk]
end Go.Proofs.YtdckhaejhfkkbaaDoor.Pu
end
section
namespace Go.Proofs.YtdckhaejhfkkbaaDoorW.PrintWords
open Go Go.RowKit
set_option linter.unusedVariables false
namespace Kd
section
variable {P : Program} {ops : Array Oper} {rest : List Oper} {o : Oper} {a : Act} {Q : Exit → Act → World → Prop} {Kc : Act → World → Prop} {W : World}
variable {α : Type}
theorem R_makeU (d : Kd α) {w0 W : World} (base e : Nat) (hgd : o.guard = none) {N : Tmp} (hd : o.dst = some N) (t : TypeId) (x y : Operand) (ho : o.op = .makeSlice t x y) (n : Int) (hx : a.eval x = .int .u64 n) (hy : a.eval y = .int .u64 n)
    (ht : P.underlying t = some (.slice e)) (z : Value) (bytes : Nat) (hinfo : (P.info? e).map (fun i => (i.zero, i.size, i.bytes)) = some (some z, d.sz, bytes)) (hz : z.cells.size = d.sz) (hs0 : 0 < d.sz) (hb0 : 0 < bytes)
    (z0 : α) {ok okp : Nat → Prop} (hzero : d.M W base okp z0 z.cells.toList) (hok : ∀ k, okp k → ok k) (hfresh : ok W.heap.size) (h0 : 0 ≤ n) (hl : n.toNat * bytes ≤ 281474976710656) (HB : Below base w0 W) (hbase : base ≤ W.heap.size)
    (h : ∀ v1 w1, d.R e w1 base ok v1 (List.replicate n.toNat z0) → Below base w0 w1 → W.grownBy w1 none → (∃ b, v1.ownBlock = some b ∧ W.heap.size ≤ b) → wpList P ops Q rest (a.put o.dst v1) w1) : wpList P ops Q (o :: rest) a W := by
  obtain ⟨m, rfl⟩ := Int.eq_ofNat_of_zero_le h0
  simp only [Int.toNat_natCast] at hl h
  obtain ⟨i0, hi, hzz⟩ := Option.map_eq_some_iff.1 hinfo
  simp only [Prod.mk.injEq] at hzz
  obtain ⟨hz0, hz1, hz2⟩ := hzz
  have hm : m ≤ 281474976710656 := Nat.le_trans (Nat.le_mul_of_pos_right _ hb0) hl
  have hr := run_make (P := P) W t e i0 z ht hi hz0 .u64 .u64 (m : Int) (m : Int) (by omega) (by omega)
    (by
      have h3 : ((i0.bytes * m : Nat) : Int) ≤ 281474976710656 := by rw [hz2, Nat.mul_comm]; omega
      rwa [Int.natCast_mul] at h3) (by omega)
  simp only [Int.toNat_natCast] at hr
  rw [hz1] at hr
  refine R_lit d base e hgd hd (xs := List.replicate m z0) (inner := (madeCells z.cells (m * d.sz)).toList) (okp := okp) (ok := ok) ?_ (reps_made hz hs0 hzero m) hok hfresh HB hbase (by simp; omega) h
  simp [execOp, ho, hx, hy, hr]
end
end Kd
end Go.Proofs.YtdckhaejhfkkbaaDoorW.PrintWords
end
section
namespace Go.Proofs.YtdckhaejhfkkbaaDoorW.PrintLast
open Go.Proofs.YtdckhaejhfkkbaaDoorW.PrintWords (Aside0)
def needsOf (md : Region.Mode) (o : Oper) : List Nat := (o.after.toList.filter (fun e => Region.binds md e)).map (fun e => e.on)
def clashOf (md : Region.Mode) (ops : Array Oper) (i : Nat) (oi : Oper) : List Nat := (List.range ops.size).filter fun j => !(j == i) && match ops[j]? with
  | some oj => !(oj.after.any (fun e => Region.binds md e && e.on == i) || oi.apart ops oj)
  | none => false
def rtab (md : Region.Mode) (ops : Array Oper) : Bool × List (List Nat × List Nat) := (Region.noSelect ops, (List.range ops.size).map fun i => match ops[i]? with
  | some o => (needsOf md o, clashOf md ops i o)
  | none => ([], []))
def readyAt (T : List (List Nat × List Nat)) (l : List Bool) (i : Nat) : Bool := !l.getD i true && match T[i]? with
  | some r => r.1.all (fun j => l.getD j false)
  | none => false
def readyT (T : List (List Nat × List Nat)) (l : List Bool) : List Nat := (List.range T.length).filter (readyAt T l)
def freeT (T : List (List Nat × List Nat)) (l : List Bool) (i : Nat) : Bool := match T[i]? with
  | some r => r.2.all (fun j => l.getD j true)
  | none => false
def closedT (T : List (List Nat × List Nat)) (l : List Bool) : Bool := (List.range T.length).all fun j => !l.getD j false || match T[j]? with
  | some r => r.1.all (fun k => l.getD k false)
  | none => true
def reachT (T : List (List Nat × List Nat)) (i : Nat) : Nat → Nat → Bool
  | 0, _ => false
  | fuel + 1, d => match T[d]? with
    | some r => r.1.any fun j => j == i || reachT T i fuel j
    | none => false
def lastT (T : List (List Nat × List Nat)) (l : List Bool) (ds : List Nat) (i : Nat) : Bool := ds.all fun d => l.getD d true || reachT T i T.length d
section
variable {md : Region.Mode} {ops : Array Oper} {T : Bool × List (List Nat × List Nat)} {l l' li lj lk : Array Bool} {ds : List Nat} {i j k : Nat}
theorem gd (l : Array Bool) (j : Nat) (b : Bool) : l.getD j b = l.toList.getD j b := by simp [Array.getD_eq_getD_getElem?, List.getD_eq_getElem?_getD]
theorem needs_all (o : Oper) (p : Nat → Bool) : o.after.all (fun e => !Region.binds md e || p e.on) = (needsOf md o).all p := by
  unfold needsOf
  rw [← Array.all_toList]
  induction o.after.toList with
  | nil => rfl
  | cons e r ih =>
    rw [List.all_cons, ih, List.filter_cons]
    cases h : Region.binds md e <;> simp
theorem needs_any (o : Oper) (p : Nat → Bool) : o.after.any (fun e => Region.binds md e && p e.on) = (needsOf md o).any p := by
  unfold needsOf
  rw [← Array.any_toList]
  induction o.after.toList with
  | nil => rfl
  | cons e r ih =>
    rw [List.any_cons, ih, List.filter_cons]
    cases h : Region.binds md e <;> simp
theorem rtab_length : (rtab md ops).2.length = ops.size := by simp [rtab]
theorem rtab_some {o : Oper} (h : ops[i]? = some o) : (rtab md ops).2[i]? = some (needsOf md o, clashOf md ops i o) := by
  have hi := (Array.getElem?_eq_some_iff.1 h).1
  unfold rtab
  rw [List.getElem?_map, List.getElem?_range hi, Option.map_some, h]
theorem rtab_none (h : ops[i]? = none) : (rtab md ops).2[i]? = none := by
  have hi : ops.size ≤ i := Array.getElem?_eq_none_iff.1 h
  exact List.getElem?_eq_none (by rw [rtab_length]; exact hi)
theorem readyAt_eq : readyAt (rtab md ops).2 l.toList i = (!l.getD i true && ((ops[i]?).map (·.after.all fun e => !Region.binds md e || l.getD e.on false)).getD false) := by
  unfold readyAt
  rw [gd]
  cases h : ops[i]? with
  | none => rw [rtab_none h]; rfl
  | some o =>
    rw [rtab_some h]
    simp only [Option.map_some, Option.getD_some]
    rw [← needs_all]
    simp only [gd]
theorem ready_eq : Region.ready md ops l = readyT (rtab md ops).2 l.toList := by
  unfold Region.ready readyT
  rw [rtab_length]
  refine List.filter_congr (fun i _ => ?_)
  rw [readyAt_eq]
theorem free_eq : Region.free md ops l i = freeT (rtab md ops).2 l.toList i := by
  unfold Region.free freeT
  cases h : ops[i]? with
  | none => rw [rtab_none h]
  | some oi =>
    rw [rtab_some h]
    simp only [clashOf]
    rw [List.all_filter]
    congr 1
    funext j
    rw [gd]
    cases hj : ops[j]? with
    | none => cases (j == i) <;> cases (l.toList.getD j true) <;> simp
    | some oj =>
      cases (j == i) <;> cases (l.toList.getD j true) <;> cases (oj.after.any (fun e => Region.binds md e && e.on == i) || oi.apart ops oj) <;> simp_all
theorem closed_eq : Region.closedB md ops l = closedT (rtab md ops).2 l.toList := by
  unfold Region.closedB closedT
  rw [rtab_length]
  congr 1
  funext j
  rw [gd]
  cases h : ops[j]? with
  | none => rw [rtab_none h]
  | some o =>
    rw [rtab_some h]
    simp only
    rw [← needs_all]
    simp only [gd]
theorem reach_eq : ∀ (fuel d : Nat), Region.reachB md ops i fuel d = reachT (rtab md ops).2 i fuel d
  | 0, _ => rfl
  | fuel + 1, d => by
    unfold Region.reachB reachT
    cases h : ops[d]? with
    | none => rw [rtab_none h]
    | some o =>
      rw [rtab_some h]
      simp only
      rw [← needs_any]
      congr 1
      funext e
      rw [reach_eq fuel]
theorem last_eq : Region.lastB md ops l ds i = lastT (rtab md ops).2 l.toList ds i := by
  unfold Region.lastB lastT
  rw [rtab_length]
  congr 1
  funext d
  rw [gd, reach_eq]
theorem readyAt_mem (h : readyAt T.2 l.toList i = true) (hT : rtab md ops = T) : (Region.ready md ops l).contains i = true := by
  subst hT
  rw [ready_eq]
  unfold readyT
  rw [List.contains_iff_mem, List.mem_filter, List.mem_range]
  refine ⟨?_, h⟩
  unfold readyAt at h
  rw [Bool.and_eq_true] at h
  cases hq : (rtab md ops).2[i]? with
  | none => rw [hq] at h; simp at h
  | some r => exact (List.getElem?_eq_some_iff.1 hq).1
theorem set_of (h : (l.toList.set i true == l'.toList) = true) : (l.setIfInBounds i true == l') = true := by
  rw [beq_iff_eq] at h ⊢
  apply Array.ext'
  rw [Array.toList_setIfInBounds]
  exact h
def anyT (T : Bool × List (List Nat × List Nat)) (l l' : List Bool) (i : Nat) : Bool := T.1 && freeT T.2 l i && readyAt T.2 l i && (l.set i true == l')
theorem any_of (hT : rtab md ops = T) (h : anyT T l.toList l'.toList i = true) : anyB md ops l l' i = true := by
  simp only [anyT, Bool.and_eq_true] at h
  obtain ⟨⟨⟨h1, h2⟩, h3⟩, h4⟩ := h
  have h5 := readyAt_mem h3 hT
  have h6 := set_of h4
  subst hT
  simp only [anyB, Bool.and_eq_true]
  exact ⟨⟨⟨h1, by rw [free_eq]; exact h2⟩, h5⟩, h6⟩
def takeT (T : Bool × List (List Nat × List Nat)) (ds : List Nat) (l l' : List Bool) (i : Nat) : Bool := T.1 && freeT T.2 l i && readyAt T.2 l i && closedT T.2 l && lastT T.2 l ds i && (l.set i true == l')
theorem take_of (hT : rtab md ops = T) (h : takeT T ds l.toList l'.toList i = true) : takeB md ops ds l l' i = true := by
  simp only [takeT, Bool.and_eq_true] at h
  obtain ⟨⟨⟨⟨⟨h1, h2⟩, h3⟩, h4⟩, h5⟩, h6⟩ := h
  have h7 := readyAt_mem h3 hT
  have h8 := set_of h6
  subst hT
  simp only [takeB, Bool.and_eq_true]
  exact ⟨⟨⟨⟨⟨h1, by rw [free_eq]; exact h2⟩, h7⟩, by rw [closed_eq]; exact h4⟩, by rw [last_eq]; exact h5⟩, h8⟩
theorem one_of (hT : rtab md ops = T) (h : (readyT T.2 l.toList == [i] && l.toList.set i true == l'.toList) = true) : readyB md ops l l' i = true := by
  simp only [Bool.and_eq_true] at h
  obtain ⟨h1, h2⟩ := h
  subst hT
  simp only [readyB, Bool.and_eq_true]
  exact ⟨by rw [ready_eq]; exact h1, set_of h2⟩
theorem done_of (hT : rtab md ops = T) (h : (readyT T.2 l.toList == []) = true) : (Region.ready md ops l == []) = true := by
  subst hT
  rw [ready_eq]
  exact h
def upM (B : List Nat) (d : Nat) : List Nat → Nat
  | [] => 0
  | n :: r => (2 ^ n ||| (if n < d then B.getD n 0 else 0)) ||| upM B d r
def waitsOk (T : List (List Nat × List Nat)) (B : List Nat) : Bool := (List.range T.length).all fun d => match T[d]? with
  | some r => (B.getD d 0 ||| upM B d r.1) == upM B d r.1
  | none => false
theorem upM_bit {B : List Nat} {d i : Nat} : ∀ {ns : List Nat}, (upM B d ns).testBit i = true → ∃ n ∈ ns, n = i ∨ (n < d ∧ (B.getD n 0).testBit i = true)
  | [], h => by simp [upM] at h
  | n :: r, h => by
    unfold upM at h
    rw [Nat.testBit_or, Nat.testBit_or, Bool.or_eq_true, Bool.or_eq_true] at h
    rcases h with (h | h) | h
    · rw [Nat.testBit_two_pow] at h
      exact ⟨n, List.mem_cons_self, .inl (by simpa using h)⟩
    · by_cases hn : n < d
      · rw [if_pos hn] at h
        exact ⟨n, List.mem_cons_self, .inr ⟨hn, h⟩⟩
      · rw [if_neg hn] at h
        simp at h
    · obtain ⟨m, hm, h2⟩ := upM_bit h
      exact ⟨m, List.mem_cons_of_mem _ hm, h2⟩
theorem reach_bit {T : List (List Nat × List Nat)} {B : List Nat} (hB : waitsOk T B = true) : ∀ (fuel d : Nat), d < fuel → d < T.length → (B.getD d 0).testBit i = true → reachT T i fuel d = true
  | 0, d, h, _, _ => by omega
  | fuel + 1, d, h, hd, hb => by
    have h1 := List.all_eq_true.1 hB d (List.mem_range.2 hd)
    cases hr : T[d]? with
    | none => rw [hr] at h1; simp at h1
    | some r =>
      rw [hr] at h1
      simp only [beq_iff_eq] at h1
      have h2 : (upM B d r.1).testBit i = true := by rw [← h1, Nat.testBit_or, hb, Bool.true_or]
      obtain ⟨n, hn, h3⟩ := upM_bit h2
      unfold reachT
      rw [hr]
      simp only
      rw [List.any_eq_true]
      refine ⟨n, hn, ?_⟩
      rcases h3 with rfl | ⟨h4, h5⟩
      · simp
      · rw [reach_bit hB fuel n (by omega) (by omega) h5, Bool.or_true]
def lastW (T : List (List Nat × List Nat)) (B : List Nat) (l : List Bool) (ds : List Nat) (i : Nat) : Bool := ds.all fun d => l.getD d true || (decide (d < T.length) && (B.getD d 0).testBit i)
def takeW (T : Bool × List (List Nat × List Nat)) (B : List Nat) (ds : List Nat) (l l' : List Bool) (i : Nat) : Bool := T.1 && freeT T.2 l i && readyAt T.2 l i && closedT T.2 l && lastW T.2 B l ds i && (l.set i true == l')
theorem take_ofW {B : List Nat} (hT : rtab md ops = T) (hB : waitsOk T.2 B = true) (h : takeW T B ds l.toList l'.toList i = true) : takeB md ops ds l l' i = true := by
  refine take_of hT ?_
  simp only [takeW, takeT, Bool.and_eq_true] at h ⊢
  obtain ⟨⟨⟨⟨⟨h1, h2⟩, h3⟩, h4⟩, h5⟩, h6⟩ := h
  refine ⟨⟨⟨⟨⟨h1, h2⟩, h3⟩, h4⟩, ?_⟩, h6⟩
  unfold lastW at h5
  unfold lastT
  rw [List.all_eq_true] at h5 ⊢
  intro d hd
  have h7 := h5 d hd
  rw [Bool.or_eq_true, Bool.and_eq_true, decide_eq_true_eq] at h7
  rcases h7 with h7 | ⟨h8, h9⟩
  · rw [h7, Bool.true_or]
  · rw [reach_bit hB _ d h8 h8 h9, Bool.or_true]
theorem with_tabW {P : Program} {Q : Exit → Act → World → Prop} {S : World → Prop} {n : Nat} {a : Act} {w : World} {B : List Nat} (hT : rtab md ops = T) (hB : waitsOk T.2 B = true) (h : Aside0 (rtab md ops = T) → Aside0 (waitsOk T.2 B = true) → wpAnyLast P md ops Q S ds n l a w) : wpAnyLast P md ops Q S ds n l a w := h ⟨hT⟩ ⟨hB⟩
end
def opsIn : Code → Nat → Option (Array Oper)
  | .region id ops _, k => if id == k then some ops else none
  | .seq a b, k => match opsIn a k with
    | some o => some o
    | none => opsIn b k
  | .cond _ a b, k => match opsIn a k with
    | some o => some o
    | none => opsIn b k
  | .block _ c, k => opsIn c k
  | .loop c, k => opsIn c k
  | .scope c, k => opsIn c k
  | .rangeFunc _ _ a b, k => match opsIn a k with
    | some o => some o
    | none => opsIn b k
  | _, _ => none
def opsOf (f : Func) (k : Nat) : Array Oper := ((f.body.bind fun c => opsIn c k)).getD #[]
end Go.Proofs.YtdckhaejhfkkbaaDoorW.PrintLast
end
section
namespace Go.Proofs.YtdckhaejhfkkbaaDoorW.PrintWords
open Go.RowKit
section
variable {P : Program} {d : Nat} {xs ys : Array Value} {f : Field} {fs : List Field} {a b : Value} {r s : Bool} {w : World}
theorem eqf_last (hn : (f.name == "_") = false) (ha : (part f.type xs f.offset).run P w = .ok a w) (hb : (part f.type ys f.offset).run P w = .ok b w) (he : (Op.equalIn d f.type a b).run P w = .ok r w) : (Op.eqFields d xs ys [f]).run P w = .ok r w := by
  have hn' : f.name ≠ "_" := by simpa using hn
  simp only [Op.eqFields, if_pos hn', Sem.run_bind, ha, hb, he, Result.andThen_ok]
  cases r <;> simp
theorem eqf_cons (hn : (f.name == "_") = false) (ha : (part f.type xs f.offset).run P w = .ok a w) (hb : (part f.type ys f.offset).run P w = .ok b w) (he : (Op.equalIn d f.type a b).run P w = .ok r w) (hr : (Op.eqFields d xs ys fs).run P w = .ok s w) : (Op.eqFields d xs ys (f :: fs)).run P w = .ok (r && s) w := by
  have hn' : f.name ≠ "_" := by simpa using hn
  rw [Op.eqFields]
  simp only [if_pos hn', Sem.run_bind, ha, hb, he, Result.andThen_ok]
  cases r
  · simp
  · simpa using hr
theorem eqA_of {t : TypeId} {fs : Array Field} (hu : P.underlying t = some (.struct fs)) (hp : P.stoodInHeld t = false) (h : (Op.eqFields d xs ys fs.toList).run P w = .ok r w) : (Op.equalIn (d + 1) t (.agg xs) (.agg ys)).run P w = .ok r w := by
  have hf : P.fieldsOf t = fs := by simp [Program.fieldsOf, hu]
  rw [run_equalIn_struct (P := P) w d t xs ys (by rw [hf]; exact hu) hp, hf]
  exact h
end
end Go.Proofs.YtdckhaejhfkkbaaDoorW.PrintWords
end
section
namespace Go.Proofs.YtdckhaejhfkkbaaDoorW.PrintWords
theorem Reps.one {α : Type} {R : α → List Value → Prop} {ps : List α} {cs : List Value} {p : α} {v : Value} (hp : R p [v]) (h : Reps R 1 ps cs) : Reps R 1 (p :: ps) (v :: cs) := by
  refine ⟨by simp [h.1], fun j q hq => ?_⟩
  cases j with
  | zero =>
    simp only [List.getElem?_cons_zero, Option.some.injEq] at hq
    subst hq
    simpa using hp
  | succ j =>
    simp only [List.getElem?_cons_succ] at hq
    have h1 := h.2 j q hq
    simpa [Nat.mul_one] using h1
theorem Reps.front {α : Type} {R : α → List Value → Prop} {size : Nat} {ps : List α} {cs c all : List Value} {p : α} (hp : R p c) (hc : c.length = size) (h : Reps R size ps cs) (ha : c ++ cs = all) : Reps R size (p :: ps) all := by
  subst ha
  refine ⟨by rw [List.length_append, hc, h.1, List.length_cons, Nat.succ_mul, Nat.add_comm], fun j q hq => ?_⟩
  cases j with
  | zero =>
    simp only [List.getElem?_cons_zero, Option.some.injEq] at hq
    subst hq
    rw [Nat.zero_mul, List.drop_zero, List.take_append_of_le_length (by omega), List.take_of_length_le (by omega)]
    exact hp
  | succ j =>
    simp only [List.getElem?_cons_succ] at hq
    have h1 := h.2 j q hq
    rw [Nat.succ_mul, List.drop_append, List.drop_of_length_le (by rw [hc]; exact Nat.le_add_left _ _), List.nil_append, hc, Nat.add_sub_cancel]
    exact h1
theorem Reps.c2 {α : Type} {R : α → List Value → Prop} {ps : List α} {cs : List Value} {p : α} {va vb : Value} (hp : R p [va, vb]) (h : Reps R 2 ps cs) : Reps R 2 (p :: ps) (va :: vb :: cs) := Reps.front hp rfl h rfl
theorem Reps.c3 {α : Type} {R : α → List Value → Prop} {ps : List α} {cs : List Value} {p : α} {va vb vc : Value} (hp : R p [va, vb, vc]) (h : Reps R 3 ps cs) : Reps R 3 (p :: ps) (va :: vb :: vc :: cs) := Reps.front hp rfl h rfl
theorem Reps.c4 {α : Type} {R : α → List Value → Prop} {ps : List α} {cs : List Value} {p : α} {va vb vc vd : Value} (hp : R p [va, vb, vc, vd]) (h : Reps R 4 ps cs) : Reps R 4 (p :: ps) (va :: vb :: vc :: vd :: cs) := Reps.front hp rfl h rfl
theorem Reps.c5 {α : Type} {R : α → List Value → Prop} {ps : List α} {cs : List Value} {p : α} {va vb vc vd ve : Value} (hp : R p [va, vb, vc, vd, ve]) (h : Reps R 5 ps cs) : Reps R 5 (p :: ps) (va :: vb :: vc :: vd :: ve :: cs) := Reps.front hp rfl h rfl
theorem Reps.c6 {α : Type} {R : α → List Value → Prop} {ps : List α} {cs : List Value} {p : α} {va vb vc vd ve vf : Value} (hp : R p [va, vb, vc, vd, ve, vf]) (h : Reps R 6 ps cs) : Reps R 6 (p :: ps) (va :: vb :: vc :: vd :: ve :: vf :: cs) := Reps.front hp rfl h rfl
theorem Reps.c7 {α : Type} {R : α → List Value → Prop} {ps : List α} {cs : List Value} {p : α} {va vb vc vd ve vf vg : Value} (hp : R p [va, vb, vc, vd, ve, vf, vg]) (h : Reps R 7 ps cs) : Reps R 7 (p :: ps) (va :: vb :: vc :: vd :: ve :: vf :: vg :: cs) := Reps.front hp rfl h rfl
theorem Reps.c8 {α : Type} {R : α → List Value → Prop} {ps : List α} {cs : List Value} {p : α} {va vb vc vd ve vf vg vh : Value} (hp : R p [va, vb, vc, vd, ve, vf, vg, vh]) (h : Reps R 8 ps cs) : Reps R 8 (p :: ps) (va :: vb :: vc :: vd :: ve :: vf :: vg :: vh :: cs) := Reps.front hp rfl h rfl
theorem Reps.c9 {α : Type} {R : α → List Value → Prop} {ps : List α} {cs : List Value} {p : α} {va vb vc vd ve vf vg vh vi : Value} (hp : R p [va, vb, vc, vd, ve, vf, vg, vh, vi]) (h : Reps R 9 ps cs) : Reps R 9 (p :: ps) (va :: vb :: vc :: vd :: ve :: vf :: vg :: vh :: vi :: cs) := Reps.front hp rfl h rfl
theorem Reps.c10 {α : Type} {R : α → List Value → Prop} {ps : List α} {cs : List Value} {p : α} {va vb vc vd ve vf vg vh vi vj : Value} (hp : R p [va, vb, vc, vd, ve, vf, vg, vh, vi, vj]) (h : Reps R 10 ps cs) : Reps R 10 (p :: ps) (va :: vb :: vc :: vd :: ve :: vf :: vg :: vh :: vi :: vj :: cs) := Reps.front hp rfl h rfl
end Go.Proofs.YtdckhaejhfkkbaaDoorW.PrintWords
end
section
namespace Go.Proofs.YtdckhaejhfkkbaaDoorW.PrintWords
open Go.RowKit
section
variable {P : Program} {ops : Array Oper} {rest : List Oper} {o : Oper} {a : Act} {Q : Exit → Act → World → Prop} {W : World}
theorem gate_guard (hw : Region.wanted o (yielded ops a.tmps) = true) (h : wpList P ops Q ({ o with guard := none } :: rest) a W) : wpList P ops Q (o :: rest) a W := by
  have h1 : Region.wanted { o with guard := none } (yielded ops a.tmps) = true := rfl
  unfold wpList at h ⊢
  rw [if_pos h1] at h
  rw [if_pos hw]
  exact h
end
end Go.Proofs.YtdckhaejhfkkbaaDoorW.PrintWords
end
