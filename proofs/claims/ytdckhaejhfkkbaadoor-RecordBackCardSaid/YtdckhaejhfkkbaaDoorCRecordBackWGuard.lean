import Derived.Test.YtdckhaejhfkkbaaDoorCRecordBackO2
import Derived.Lib.AppendStr
import Derived.Laws.IdiomCopy
import Derived.Lib.ValidLaws
import Derived.Laws.BitsLemmas
import Derived.KernelRfl
import Derived.Laws.BitsAllLaws
import Derived.Laws.Bits64
import Derived.WalkArith
import Derived.Lib.ConvBytes
import Derived.Test.YtdckhaejhfkkbaaDoorCRecordBackWWords
import Derived.Laws.StructEq
namespace Go.Proofs.YtdckhaejhfkkbaaDoor.Bq
end Go.Proofs.YtdckhaejhfkkbaaDoor.Bq
section
namespace Go.Proofs.YtdckhaejhfkkbaaDoorW.PrintWords
open Go Go.RowKit
set_option linter.unusedVariables false
namespace Kd
theorem ne_nil_ {α : Type} [BEq α] (l : List α) : (l != []) = !l.isEmpty := by cases l <;> rfl
theorem eq_nil_ {α : Type} [BEq α] (l : List α) : (l == []) = l.isEmpty := by cases l <;> rfl
section
variable {P : Program} {ops : Array Oper} {rest : List Oper} {o : Oper} {a : Act} {Q : Exit → Act → World → Prop} {Kc : Act → World → Prop} {α : Type} {W : World}
theorem make0_row (d : Kd α) {w0 W : World} (base e : Nat) (t : TypeId) (n : Int) (ht : P.underlying t = some (.slice e)) (z : Value) (bytes : Nat) (hinfo : (P.info? e).map (fun i => (i.zero, i.size, i.bytes)) = some (some z, d.sz, bytes)) (hz : z.cells.size = d.sz) (hb0 : 0 < bytes)
    (z0 : α) {ok : Nat → Prop} (hfresh : ok W.heap.size) (h0 : 0 ≤ n) (hl : n.toNat * bytes ≤ 281474976710656) (HB : Below base w0 W) (hbase : base ≤ W.heap.size) :
    ∃ v1 w1, (Instr.makeSlice t (.int .i64 0) (.int .i64 n)).run P W = .ok v1 w1 ∧ d.R e w1 base ok v1 (List.replicate (0 : Int).toNat z0) ∧ Below base w0 w1 ∧ W.grownBy w1 none ∧ ∃ b, v1.ownBlock = some b ∧ W.heap.size ≤ b := by
  obtain ⟨m, rfl⟩ := Int.eq_ofNat_of_zero_le h0
  simp only [Int.toNat_natCast] at hl
  obtain ⟨i0, hi, hzz⟩ := Option.map_eq_some_iff.1 hinfo
  simp only [Prod.mk.injEq] at hzz
  obtain ⟨hz0, hz1, hz2⟩ := hzz
  have hm : m ≤ 281474976710656 := Nat.le_trans (Nat.le_mul_of_pos_right _ hb0) hl
  have hr := run_make (P := P) W t e i0 z ht hi hz0 .i64 .i64 0 (m : Int) (by omega) (by omega)
    (by
      have h3 : ((i0.bytes * m : Nat) : Int) ≤ 281474976710656 := by rw [hz2, Nat.mul_comm]; omega
      rwa [Int.natCast_mul] at h3) (by omega)
  simp only [Int.toNat_natCast, Int.toNat_zero] at hr
  rw [hz1] at hr
  refine ⟨_, _, hr, ⟨fun k hk => ?_, [], ?_, Reps.none _ _⟩, HB.alloc hbase _, World.grownBy_alloc W _ none, ⟨W.heap.size, by simp [Value.ownBlock], Nat.le_refl _⟩⟩
  · have : W.heap.size = k := by simpa [Value.ownBlock] using hk
    subst this
    exact hfresh
  · exact World.ownsRow_made W _ m hbase (by simp [maxLen]; omega) (size_madeCells _ _)
theorem R_make0 (d : Kd α) {w0 W : World} (base e : Nat) (hgd : o.guard = none) {N : Tmp} (hd : o.dst = some N) (t : TypeId) (x y : Operand) (ho : o.op = .makeSlice t x y) (n : Int) (hx : a.eval x = .int .i64 0) (hy : a.eval y = .int .i64 n)
    (ht : P.underlying t = some (.slice e)) (z : Value) (bytes : Nat) (hinfo : (P.info? e).map (fun i => (i.zero, i.size, i.bytes)) = some (some z, d.sz, bytes)) (hz : z.cells.size = d.sz) (hs0 : 0 < d.sz) (hb0 : 0 < bytes)
    (z0 : α) {ok okp : Nat → Prop} (hzero : d.M W base okp z0 z.cells.toList) (hok : ∀ k, okp k → ok k) (hfresh : ok W.heap.size) (h0 : 0 ≤ n) (hl : n.toNat * bytes ≤ 281474976710656) (HB : Below base w0 W) (hbase : base ≤ W.heap.size)
    (h : ∀ v1 w1, d.R e w1 base ok v1 (List.replicate (0 : Int).toNat z0) → Below base w0 w1 → W.grownBy w1 none → (∃ b, v1.ownBlock = some b ∧ W.heap.size ≤ b) → wpList P ops Q rest (a.put o.dst v1) w1) : wpList P ops Q (o :: rest) a W := by
  obtain ⟨v1, w1, hr, h1, h2, h3, h4⟩ := make0_row d base e t n ht z bytes hinfo hz hb0 z0 (ok := ok) hfresh h0 hl HB hbase
  refine event_run hgd ?_ (h v1 w1 h1 h2 h3 h4)
  simp [execOp, ho, hx, hy, hr]
theorem run_append_str_at (base t u ty e : Nat) (W : World) (i : TypeInfo) (ht : P.underlying t = some (.slice e)) (hu : P.underlying u = some .string) (hi : P.info? e = some i) (hz : i.zero = some (.int .u8 0)) (hsize : i.size = 1) (hby : i.bytes = 1)
    (v : Value) (xs : List Int) (y : ByteArray) (HO : W.ownsRow base e 1 v xs.length (nums .u8 xs)) (hbase : base ≤ W.heap.size) (hl : xs.length + y.size ≤ 140737488355328) :
    ∃ v1 w1, (Builtin.append_ #[t, u] ty #[v, .string y]).run P W = .ok v1 w1 ∧ w1.ownsRow base e 1 v1 (xs ++ bytesOf y).length (nums .u8 (xs ++ bytesOf y)) ∧ W.grownBy w1 v.ownBlock ∧ (v1.ownBlock = v.ownBlock ∨ ∃ b, v1.ownBlock = some b ∧ W.heap.size ≤ b) := by
  obtain ⟨v1, w1, hr, h2, hg, hn⟩ := Lib.run_append_own_string (P := P) W base t u ty e i ht hu hi hz hsize hby v xs.length (nums .u8 xs) HO y (by simp only [maxLen]; omega) hl hbase
  have hl2 : (xs ++ bytesOf y).length = xs.length + y.size := by rw [List.length_append, bytesOf_length]
  have hc : nums .u8 (xs ++ bytesOf y) = nums .u8 xs ++ Lib.strCells y := by
    rw [nums_append]
    congr 1
    simp [nums, bytesOf, Lib.strCells]
  refine ⟨v1, w1, hr, by rw [hl2, hc]; exact h2, hg, ?_⟩
  rcases HO.2 with ⟨rfl, hx⟩ | ⟨g, cap, cur, rfl, hbg, hgb, hnc, hcm, hcs, htake⟩
  · by_cases hm : y.size = 0
    · left
      rw [hn.2 ⟨rfl, hm⟩]
    · have h3 := run_append_nil_string (P := P) W t u ty e i (.int .u8 0) ht hu hi hz y (by omega) (by omega) (by rw [hby]; omega)
      rw [hr] at h3
      injection h3 with h3 _
      right
      exact ⟨W.heap.size, by rw [h3]; rfl, Nat.le_refl _⟩
  · by_cases hroom : xs.length + y.size ≤ cap
    · have h3 := Lib.run_append_room_string (P := P) W t u ty e i ht hu hi hsize g xs.length cap cur hgb y hroom (by omega)
      rw [hr] at h3
      injection h3 with h3 _
      left
      rw [h3]
      rfl
    · have holds : ∀ j u, (nums .u8 xs)[j]? = some u → W.cell? ((⟨g, 0, none⟩ : Addr).add j) = some u := HO.cells (g := g) rfl
      have h3 := Lib.run_append_grow_string (P := P) W t u ty e i (.int .u8 0) ht hu hi hz ⟨g, 0, none⟩ xs.length cap (nums .u8 xs) (by rw [hsize]; simpa using HO.1) holds y (by omega) (by omega) (by rw [hby]; exact growslice_fits (by omega) (by omega))
      rw [hr] at h3
      injection h3 with h3 _
      right
      exact ⟨W.heap.size, by rw [h3]; rfl, Nat.le_refl _⟩
theorem append_str_row (W : World) (base t u ty e : Nat) (ht : P.underlying t = some (.slice e)) (hu : P.underlying u = some .string) (hinfo : (P.info? e).map (fun i => (i.zero, i.size, i.bytes)) = some (some (.int .u8 0), 1, 1))
    (v : Value) (xs : List Int) (y : ByteArray) (ok : Nat → Prop) (HO : (Kd.int .u8).R e W base ok v xs) (hfresh : ∀ k, W.heap.size ≤ k → ok k) (hbase : base ≤ W.heap.size) (hl : xs.length + y.size ≤ 140737488355328) :
    ∃ v1 w1, (Builtin.append_ #[t, u] ty #[v, .string y]).run P W = .ok v1 w1 ∧ (Kd.int .u8).R e w1 base ok v1 (xs ++ bytesOf y) ∧ W.grownBy w1 v.ownBlock ∧ (v1.ownBlock = v.ownBlock ∨ ∃ b, v1.ownBlock = some b ∧ W.heap.size ≤ b) := by
  obtain ⟨i0, hi, hzz⟩ := Option.map_eq_some_iff.1 hinfo
  simp only [Prod.mk.injEq] at hzz
  obtain ⟨hz0, hz1, hz2⟩ := hzz
  obtain ⟨v1, w1, hr, h2, hg, hat⟩ := run_append_str_at (P := P) base t u ty e W i0 ht hu hi hz0 hz1 hz2 v xs y (Kd.own_of_R HO) hbase hl
  refine ⟨v1, w1, hr, Kd.R_of_own (h1 := fun _ => rfl) h2 (fun k hk => ?_), hg, hat⟩
  rcases hat with hat | ⟨b, hb, hle⟩
  · exact HO.1 k (hat ▸ hk)
  · rw [hb] at hk
    injection hk with hk
    exact hfresh k (by omega)
theorem R_append_str {w0 W : World} (base : Nat) (hgd : o.guard = none) (s x : Operand) (t u e : Nat)
    (ho : o.op = .call { callee := .builtin .append, args := #[s, x], argTypes := #[t, u] })
    (ht : P.underlying t = some (.slice e)) (hu : P.underlying u = some .string) (hinfo : (P.info? e).map (fun i => (i.zero, i.size, i.bytes)) = some (some (.int .u8 0), 1, 1))
    (v : Value) (xs : List Int) (y : ByteArray) (ok : Nat → Prop) (hs : a.eval s = v) (hx : a.eval x = .string y)
    (hfresh : ∀ k, W.heap.size ≤ k → ok k) (HO : (Kd.int .u8).R e W base ok v xs) (HB : Below base w0 W) (hbase : base ≤ W.heap.size) (hl : xs.length + y.size ≤ 140737488355328)
    (h : ∀ v1 w1, (Kd.int .u8).R e w1 base ok v1 (xs ++ bytesOf y) → Below base w0 w1 → W.grownBy w1 v.ownBlock → (v1.ownBlock = v.ownBlock ∨ ∃ b, v1.ownBlock = some b ∧ W.heap.size ≤ b) → wpList P ops Q rest (a.put o.dst v1) w1) :
    wpList P ops Q (o :: rest) a W := by
  refine wpList_plain hgd fun K hK => ?_
  obtain ⟨v1, w1, hr, h2, hg, hat⟩ := append_str_row (P := P) W base t u o.type e ht hu hinfo v xs y ok HO hfresh hbase hl
  unfold Oper.wp execOp
  simp only [ho, resolve, invoke, builtin, Sem.run_bind, Sem.run_pure, Result.andThen_ok, List.map_toArray, List.map_cons, List.map_nil, hs, hx, hr]
  exact hK _ _ (h v1 w1 h2 (HB.grown hg hbase (own_base (Kd.own_of_R HO))) hg hat)
end
end Kd
end Go.Proofs.YtdckhaejhfkkbaaDoorW.PrintWords
end
section
namespace Go.Proofs.YtdckhaejhfkkbaaDoor.Pu
open Go Go.RowKit Go.Proofs.YtdckhaejhfkkbaaDoorW.PrintWords Go.Proofs.YtdckhaejhfkkbaaDoorW.PrintLast Go.Proofs.YtdckhaejhfkkbaaDoorW.PrintMore
set_option linter.unusedVariables false
theorem w64 {x : Int} (h0 : -9223372036854775808 ≤ x) (h1 : x ≤ 9223372036854775807) : wrap64 x = x := by unfold wrap64; omega
theorem w32 {x : Int} (h0 : -2147483648 ≤ x) (h1 : x ≤ 2147483647) : wrap32 x = x := by unfold wrap32; omega
theorem wn {n : Nat} {x : Int} (h : x = (n : Int)) (hn : n ≤ 9223372036854775807) : wrap64 x = (n : Int) := by
  rw [h]
  exact w64 (by omega) (by omega)
theorem w1 (n : Nat) (h : n ≤ 9000000000000000000) : wrap64 ((n : Int) + 1) = ((n + 1 : Nat) : Int) := wn rfl (by omega)
theorem w2 (n : Nat) (h : n ≤ 9000000000000000000) : wrap64 (((n + 1 : Nat) : Int) + 1) = ((n + 2 : Nat) : Int) := wn (by omega) (by omega)
abbrev Str := List UInt8
def B (s : ByteArray) : Str := s.data.toList
theorem B_length (s : ByteArray) : (B s).length = s.size := data_length s
theorem toList_B (s : ByteArray) : s.toList = B s := ByteArray.toList_eq s
theorem B_inj {a b : ByteArray} (h : B a = B b) : a = b := Go.WideShapes.bytes_inj h
theorem bt_B (s : ByteArray) (n : Nat) : bt s (n : Int) = (((B s).getD n 0).toNat : Int) := by
  unfold bt B
  rw [Int.toNat_natCast]
  by_cases h : n < s.size
  · rw [dif_pos h, List.getD_eq_getElem?_getD, List.getElem?_eq_getElem (by rw [data_length]; exact h)]
    simp
    rfl
  · rw [dif_neg h, List.getD_eq_getElem?_getD, List.getElem?_eq_none (by rw [data_length]; omega)]
    rfl
theorem drop_cons (l : Str) (n : Nat) (h : n < l.length) : l.drop n = l.getD n 0 :: l.drop (n + 1) := by
  rw [List.drop_eq_getElem_cons h, List.getD_eq_getElem?_getD, List.getElem?_eq_getElem h]
  rfl
theorem getD_drop (l : Str) (n i : Nat) : (l.drop n).getD i 0 = l.getD (n + i) 0 := by
  simp [List.getD_eq_getElem?_getD, List.getElem?_drop]
theorem succ_of {k d : Nat} (h : d < k) : ∃ m, k = m + 1 := ⟨k - 1, by omega⟩
theorem Ev.at {α : Type} {g : Nat → Option α} {r : α} (K : Nat) (h : ∀ k, K < k → g k = some r) : Ev g r := ⟨K + 1, fun k hk => h k (by omega)⟩
theorem Ev.add {α : Type} {g : Nat → Option α} {r : α} (h : Ev g r) : Ev (fun k => g (k + 1)) r := by
  obtain ⟨K, h⟩ := h
  exact ⟨K, fun k hk => h (k + 1) (by omega)⟩
theorem Ev.ite {α : Type} {c : Prop} [Decidable c] {g f : Nat → Option α} {r : α} (h1 : c → Ev g r) (h2 : ¬ c → Ev f r) : Ev (fun k => if c then g k else f k) r := by
  by_cases hc : c
  · simp only [if_pos hc]; exact h1 hc
  · simp only [if_neg hc]; exact h2 hc
end Go.Proofs.YtdckhaejhfkkbaaDoor.Pu
end
section
namespace Go.Proofs.YtdckhaejhfkkbaaDoor
namespace Bq
set_option linter.unusedVariables false
set_option linter.unusedSimpArgs false
theorem snoc_ind {α : Type} {P : List α → Prop} (h0 : P []) (h1 : ∀ l b, P l → P (l ++ [b])) (l : List α) : P l := by
  have h : ∀ m : List α, P m.reverse := by
    intro m
    induction m with
    | nil => exact h0
    | cons b m ih => rw [List.reverse_cons]; exact h1 _ _ ih
  have := h l.reverse
  rwa [List.reverse_reverse] at this
def nb (n : Nat) (w : Nat) : List Bool := (List.range w).map fun i => n.testBit (w - 1 - i)
def bnum (l : List Bool) : Nat := l.foldl (fun a b => 2 * a + b.toNat) 0
def byte8 (l : List Bool) : Nat := bnum l * 2 ^ (8 - l.length)
def pack (l : List Bool) : List Nat := if l = [] then [] else byte8 (l.take 8) :: pack (l.drop 8)
termination_by l.length
decreasing_by
  rename_i h
  have : 0 < l.length := List.length_pos_iff.2 h
  simp
  omega
def ints (l : List Nat) : List Int := l.map fun (x : Nat) => (x : Int)
def packI (l : List Bool) : List Int := ints (pack l)
theorem ints_length (a : List Nat) : (ints a).length = a.length := by simp [ints]
theorem nb_length (n w : Nat) : (nb n w).length = w := by simp [nb]
theorem nb_zero (n : Nat) : nb n 0 = [] := rfl
theorem nb_succ (n w : Nat) : nb n (w + 1) = n.testBit w :: nb n w := by
  unfold nb
  rw [List.range_succ_eq_map, List.map_cons, List.map_map]
  congr 1
  apply List.map_congr_left
  intro i hi
  simp only [Function.comp]
  congr 1
  omega
theorem nb_add (n a : Nat) : ∀ b, nb n (b + a) = nb (n / 2 ^ a) b ++ nb n a
  | 0 => by simp [nb_zero]
  | b + 1 => by
    rw [show b + 1 + a = (b + a) + 1 from by omega, nb_succ, nb_succ, nb_add n a b, List.cons_append]
    congr 1
    rw [Nat.testBit_div_two_pow]
theorem nb_split (n w k : Nat) (h : k ≤ w) : nb n w = nb (n / 2 ^ (w - k)) k ++ nb n (w - k) := by
  have := nb_add n (w - k) k
  rwa [show k + (w - k) = w from by omega] at this
theorem bnum_nil : bnum [] = 0 := rfl
theorem bnum_snoc (l : List Bool) (b : Bool) : bnum (l ++ [b]) = 2 * bnum l + b.toNat := by simp [bnum]
theorem bnum_append (l : List Bool) : ∀ t : List Bool, bnum (l ++ t) = bnum l * 2 ^ t.length + bnum t := by
  intro t
  induction t using snoc_ind with
  | h0 => simp [bnum_nil]
  | h1 t b ih =>
    rw [← List.append_assoc, bnum_snoc, bnum_snoc, ih, List.length_append, List.length_singleton, Nat.pow_succ]
    rw [Nat.mul_add, ← Nat.mul_assoc, Nat.mul_comm 2 (bnum l), Nat.mul_assoc, Nat.mul_comm 2 (2 ^ _)]
    omega
theorem bnum_lt (l : List Bool) : bnum l < 2 ^ l.length := by
  induction l using snoc_ind with
  | h0 => simp [bnum_nil]
  | h1 l b ih =>
    rw [bnum_snoc, List.length_append, List.length_singleton, Nat.pow_succ]
    have : b.toNat ≤ 1 := Bool.toNat_le b
    omega
theorem bnum_nb (n : Nat) : ∀ w, bnum (nb n w) = n % 2 ^ w
  | 0 => by simp [nb_zero, bnum_nil, Nat.mod_one]
  | w + 1 => by
    have h := nb_split n (w + 1) w (by omega)
    rw [show w + 1 - w = 1 from by omega] at h
    rw [h, bnum_append, bnum_nb (n / 2 ^ 1) w, nb_length]
    have h1 : bnum (nb n 1) = n % 2 := by
      rw [nb_succ, nb_zero]
      simp [bnum, Nat.testBit_zero]
      rcases Nat.mod_two_eq_zero_or_one n with h | h <;> simp [h]
    rw [h1, Nat.pow_one, Nat.pow_succ, Nat.mul_comm (2 ^ w) 2, Nat.mod_mul]
    omega
theorem nb_bnum : ∀ l : List Bool, nb (bnum l) l.length = l := by
  intro l
  induction l using snoc_ind with
  | h0 => rfl
  | h1 l b ih =>
    rw [bnum_snoc, List.length_append, List.length_singleton]
    have h := nb_split (2 * bnum l + b.toNat) (l.length + 1) l.length (by omega)
    rw [show l.length + 1 - l.length = 1 from by omega] at h
    rw [h]
    have hb : b.toNat ≤ 1 := Bool.toNat_le b
    rw [show (2 * bnum l + b.toNat) / 2 ^ 1 = bnum l from by omega, ih, nb_succ, nb_zero]
    congr 1
    rw [Nat.testBit_zero]
    cases b <;> simp [Nat.add_mod]
theorem pack_nil : pack [] = [] := by unfold pack; simp
theorem pack_cons (l : List Bool) (h : l ≠ []) : pack l = byte8 (l.take 8) :: pack (l.drop 8) := by rw [pack]; simp [h]
theorem pack_length (l : List Bool) : (pack l).length = (l.length + 7) / 8 := by
    by_cases h : l = []
    · subst h; simp [pack_nil]
    · have hp : 0 < l.length := List.length_pos_iff.2 h
      rw [pack_cons l h, List.length_cons, pack_length (l.drop 8), List.length_drop]
      omega
termination_by l.length
decreasing_by
  have : 0 < l.length := List.length_pos_iff.2 h
  simp
  omega
theorem byte8_lt (t : List Bool) (h8 : t.length ≤ 8) : byte8 t < 256 := by
  unfold byte8
  have h := bnum_lt t
  calc bnum t * 2 ^ (8 - t.length) < 2 ^ t.length * 2 ^ (8 - t.length) := Nat.mul_lt_mul_of_pos_right h (Nat.two_pow_pos _)
    _ = 256 := by rw [← Nat.pow_add, show t.length + (8 - t.length) = 8 from by omega]
theorem pack_lt : ∀ (l : List Bool) (x : Nat), x ∈ pack l → x < 256
  | l, x, hx => by
    by_cases h : l = []
    · subst h; simp [pack_nil] at hx
    · rw [pack_cons l h] at hx
      rcases List.mem_cons.1 hx with rfl | hx
      · exact byte8_lt _ (by simp; omega)
      · exact pack_lt (l.drop 8) x hx
termination_by l => l.length
decreasing_by
  have : 0 < l.length := List.length_pos_iff.2 h
  simp
  omega
end Bq
end Go.Proofs.YtdckhaejhfkkbaaDoor
end
section
namespace Go.Proofs.YtdckhaejhfkkbaaDoor
namespace Bq
set_option linter.unusedVariables false
set_option linter.unusedSimpArgs false
def uv (n : Nat) : List Nat := if n < 128 then [n] else (n % 128 + 128) :: uv (n / 128)
termination_by n
decreasing_by omega
theorem uv_small (n : Nat) (h : n < 128) : uv n = [n] := by rw [uv, if_pos h]
theorem uv_big (n : Nat) (h : 128 ≤ n) : uv n = (n % 128 + 128) :: uv (n / 128) := by rw [uv, if_neg (by omega)]
theorem uv_pos (n : Nat) : 0 < (uv n).length := by
  by_cases h : n < 128
  · simp [uv_small n h]
  · simp [uv_big n (by omega)]
theorem uv_len (k : Nat) : ∀ n, n < 128 ^ (k + 1) → (uv n).length ≤ k + 1 := by
  induction k with
  | zero => intro n h; rw [uv_small n (by simpa using h)]; simp
  | succ k ih =>
    intro n h
    by_cases h1 : n < 128
    · rw [uv_small n h1]; simp
    · rw [uv_big n (by omega), List.length_cons]
      have := ih (n / 128) (by rw [Nat.div_lt_iff_lt_mul (by decide)]; rwa [Nat.pow_succ] at h)
      omega
theorem uv_len10 (n : Nat) (h : n < 18446744073709551616) : (uv n).length ≤ 10 := uv_len 9 n (Nat.lt_of_lt_of_le h (by decide))
theorem uv_lt (n : Nat) : ∀ x ∈ uv n, x < 256 := by
  induction n using Nat.strongRecOn with
  | _ n ih =>
    intro x hx
    by_cases h : n < 128
    · rw [uv_small n h] at hx
      have : x = n := by simpa using hx
      omega
    · rw [uv_big n (by omega)] at hx
      rcases List.mem_cons.1 hx with rfl | hx
      · omega
      · exact ih (n / 128) (by omega) x hx
def ug : Nat → Nat → List Int → Int × Int × Int
  | at_, acc, [] => if at_ < 10 then (0, 0, 6) else (0, 0, 9)
  | at_, acc, x :: xs =>
    if 10 ≤ at_ then (0, 0, 9)
    else if at_ = 9 ∧ 1 < x then (0, 0, 9)
    else if x < 128 then (if 0 < at_ ∧ x = 0 then (0, 0, 8) else ((acc : Int) + x * 128 ^ at_, (at_ : Int) + 1, 0))
    else ug (at_ + 1) (acc + (x.toNat - 128) * 128 ^ at_) xs
def uget (xs : List Int) : Int × Int × Int := ug 0 0 xs
def zigI (n : Int) : Int := if n < 0 then -2 * n - 1 else 2 * n
def zagI (n : Int) : Int := if n % 2 = 1 then -((n + 1) / 2) else n / 2
theorem zag_zig (n : Int) : zagI (zigI n) = n := by
  unfold zagI zigI
  split <;> split <;> omega
theorem zig_zag (n : Int) (h : 0 ≤ n) : zigI (zagI n) = n := by
  unfold zagI zigI
  split <;> split <;> omega
theorem wrap_u64' (n : Int) : IntKind.u64.wrap n = n % 18446744073709551616 := by simp [IntKind.wrap, IntKind.bits, IntKind.signed]
theorem xor_ones (a : Nat) (ha : a < 18446744073709551616) : a ^^^ 18446744073709551615 = 18446744073709551615 - a := by
  have h : ((BitVec.ofNat 64 a) ^^^ (BitVec.allOnes 64)).toNat = 2 ^ 64 - 1 - (BitVec.ofNat 64 a).toNat := by rw [BitVec.xor_allOnes, BitVec.toNat_not]
  rw [BitVec.toNat_xor, BitVec.toNat_ofNat, BitVec.toNat_allOnes, Nat.mod_eq_of_lt (by omega)] at h
  simpa using h
theorem bits_xor_i64 (x y : Int) : bits .xor .i64 x y = IntKind.i64.wrap (((BitVec.ofInt 64 x) ^^^ (BitVec.ofInt 64 y)).toNat : Int) := rfl
theorem bits_zero_i64 (x : Int) (h0 : 0 ≤ x) (h1 : x < 9223372036854775808) : bits .xor .i64 x 0 = x := by
  obtain ⟨a, rfl⟩ := Int.eq_ofNat_of_zero_le h0
  rw [bits_xor_i64, BitVec.ofInt_natCast, show BitVec.ofInt 64 0 = 0#64 from rfl, BitVec.xor_zero, BitVec.toNat_ofNat, Nat.mod_eq_of_lt (show a < 2 ^ 64 by omega), IntKind.wrap_i64]
  omega
theorem bits_ones_i64 (x : Int) (h0 : 0 ≤ x) (h1 : x < 9223372036854775808) : bits .xor .i64 x (-1) = -x - 1 := by
  obtain ⟨a, rfl⟩ := Int.eq_ofNat_of_zero_le h0
  rw [bits_xor_i64, BitVec.ofInt_natCast, show BitVec.ofInt 64 (-1) = BitVec.allOnes 64 from rfl, BitVec.xor_allOnes, BitVec.toNat_not, BitVec.toNat_ofNat, Nat.mod_eq_of_lt (show a < 2 ^ 64 by omega), IntKind.wrap_i64]
  omega
theorem zag_bits (n : Int) (h0 : 0 ≤ n) (h1 : n < 18446744073709551616) :
    bits .xor .i64 (n / 2) (-(n % 2)) = zagI n := by
  unfold zagI
  split
  · rename_i h
    rw [h, bits_ones_i64 _ (by omega) (by omega)]
    omega
  · rw [show n % 2 = 0 by omega]
    exact bits_zero_i64 _ (by omega) (by omega)
theorem and_one (n : Int) (h0 : 0 ≤ n) (h1 : n < 18446744073709551616) : bits .and .u64 n 1 = n % 2 := by
  have := bits_mask .u64 64 (by decide) (fun m a b => by rw [wrap_u64']; omega) 1 (by omega) n h0 (by omega)
  simpa using this
theorem zig_bits (n : Int) (h0 : -9223372036854775808 ≤ n) (h1 : n ≤ 9223372036854775807) :
    bits .xor .u64 (IntKind.u64.wrap (IntKind.i64.wrap (n * 2))) (IntKind.u64.wrap (n / 9223372036854775808)) = zigI n := by
  have e1 : IntKind.u64.wrap (IntKind.i64.wrap (n * 2)) = (n * 2) % 18446744073709551616 := by
    rw [IntKind.wrap_i64, wrap_u64']
    omega
  unfold zigI
  rw [e1, wrap_u64']
  obtain ⟨a, ha⟩ := Int.eq_ofNat_of_zero_le (show 0 ≤ (n * 2) % 18446744073709551616 by omega)
  have ha2 : a < 18446744073709551616 := by omega
  rw [ha]
  by_cases hn : n < 0
  · rw [if_pos hn]
    have e2 : (n / 9223372036854775808) % 18446744073709551616 = ((18446744073709551615 : Nat) : Int) := by omega
    rw [e2, bits_xor_u64_nat _ _ ha2 (by decide)]
    rw [xor_ones a ha2]
    omega
  · rw [if_neg hn]
    have e2 : (n / 9223372036854775808) % 18446744073709551616 = ((0 : Nat) : Int) := by omega
    rw [e2, bits_xor_u64_nat _ _ ha2 (by decide), Nat.xor_zero]
    omega
end Bq
end Go.Proofs.YtdckhaejhfkkbaaDoor
end
section
namespace Go.Proofs.YtdckhaejhfkkbaaDoor
open Bq
set_option linter.unusedVariables false
theorem p128 (k : Nat) : 128 ^ (k + 1) = 128 * 128 ^ k := by rw [Nat.pow_succ, Nat.mul_comm]
theorem k_lt {n k : Nat} (h : n * 128 ^ k < 18446744073709551616) (hk : k = 0 ∨ 0 < n) : k < 10 := by
  rcases hk with rfl | hk
  · decide
  · apply Nat.lt_of_not_le
    intro h10
    have h1 : 128 ^ 10 ≤ 128 ^ k := Nat.pow_le_pow_right (by decide) h10
    have h2 : 1 * 128 ^ k ≤ n * 128 ^ k := Nat.mul_le_mul_right _ hk
    have h3 : (128 : Nat) ^ 10 = 1180591620717411303424 := by decide
    omega
theorem k9 {n k : Nat} (h : n * 128 ^ k < 18446744073709551616) (hk : k = 9) : n ≤ 1 := by
  subst hk
  have h3 : (128 : Nat) ^ 9 = 9223372036854775808 := by decide
  rw [h3] at h
  omega
theorem step128 {n k : Nat} (h : n * 128 ^ k < 18446744073709551616) : n / 128 * 128 ^ (k + 1) < 18446744073709551616 := by
  rw [p128, ← Nat.mul_assoc]
  exact Nat.lt_of_le_of_lt (Nat.mul_le_mul_right _ (Nat.div_mul_le_self n 128)) h
theorem sum128 (n k : Nat) : n % 128 * 128 ^ k + n / 128 * 128 ^ (k + 1) = n * 128 ^ k := by
  rw [p128, ← Nat.mul_assoc, ← Nat.add_mul]
  congr 1
  omega
theorem ug_uv (rest : List Int) : ∀ (b n k acc : Nat), n ≤ b → n * 128 ^ k < 18446744073709551616 → (k = 0 ∨ 0 < n) →
    ug k acc (ints (uv n) ++ rest) = (((acc + n * 128 ^ k : Nat) : Int), ((k + (uv n).length : Nat) : Int), 0) := by
  intro b
  induction b with
  | zero =>
    intro n k acc hb h hk
    have hn : n = 0 := by omega
    subst hn
    have hk0 : k = 0 := by omega
    subst hk0
    rw [uv_small 0 (by decide)]
    simp [ints, ug]
  | succ b ih =>
    intro n k acc hb h hk
    have hk10 := k_lt h hk
    by_cases hn : n < 128
    · rw [uv_small n hn]
      show ug k acc ((n : Int) :: rest) = _
      rw [ug, if_neg (by omega), if_neg (by
        rintro ⟨h9, h1⟩
        have := k9 h h9
        omega), if_pos (by omega), if_neg (by
        rintro ⟨h1, h2⟩
        omega)]
      simp
    · rw [uv_big n (by omega)]
      show ug k acc (((n % 128 + 128 : Nat) : Int) :: (ints (uv (n / 128)) ++ rest)) = _
      rw [ug, if_neg (by omega), if_neg (by
        rintro ⟨h9, h1⟩
        have := k9 h h9
        omega), if_neg (by omega)]
      have e : (((n % 128 + 128 : Nat) : Int).toNat - 128) = n % 128 := by omega
      rw [e, ih (n / 128) (k + 1) _ (by omega) (step128 h) (.inr (by omega)), Nat.add_assoc acc, sum128, List.length_cons, Nat.add_assoc k 1, Nat.add_comm 1]
theorem uget_uv (n : Nat) (h : n < 18446744073709551616) (rest : List Int) : uget (ints (uv n) ++ rest) = ((n : Int), ((uv n).length : Int), 0) := by
  have := ug_uv rest n n 0 0 (Nat.le_refl _) (by simpa using h) (.inl rfl)
  simpa [uget] using this
theorem ug_cut : ∀ (b n k acc i : Nat), n ≤ b → n * 128 ^ k < 18446744073709551616 → (k = 0 ∨ 0 < n) → i < (uv n).length →
    (ug k acc ((ints (uv n)).take i)).2.2 = 6 := by
  intro b
  induction b with
  | zero =>
    intro n k acc i hb h hk hi
    have hn : n = 0 := by omega
    subst hn
    have hk0 : k = 0 := by omega
    subst hk0
    rw [uv_small 0 (by decide)] at hi ⊢
    have hi0 : i = 0 := by simpa using hi
    subst hi0
    simp [ints, ug]
  | succ b ih =>
    intro n k acc i hb h hk hi
    have hk10 := k_lt h hk
    cases i with
    | zero => simp [ug, hk10]
    | succ i =>
      by_cases hn : n < 128
      · rw [uv_small n hn] at hi
        simp at hi
      · rw [uv_big n (by omega)] at hi ⊢
        show (ug k acc (((n % 128 + 128 : Nat) : Int) :: (ints (uv (n / 128))).take i)).2.2 = 6
        rw [ug, if_neg (by omega), if_neg (by
          rintro ⟨h9, h1⟩
          have := k9 h h9
          omega), if_neg (by omega)]
        exact ih (n / 128) (k + 1) _ i (by omega) (step128 h) (.inr (by omega)) (by simpa using hi)
theorem uget_cut (n : Nat) (h : n < 18446744073709551616) (i : Nat) (hi : i < (uv n).length) : (uget ((ints (uv n)).take i)).2.2 = 6 :=
  ug_cut n n 0 0 i (Nat.le_refl _) (by simpa using h) (.inl rfl) hi
theorem ug_back : ∀ (xs : List Int) (k acc : Nat), (∀ x ∈ xs, 0 ≤ x ∧ x < 256) → (ug k acc xs).2.2 = 0 →
    ∃ n : Nat, (ug k acc xs).1 = ((acc + n * 128 ^ k : Nat) : Int) ∧ (ug k acc xs).2.1 = ((k + (uv n).length : Nat) : Int) ∧ (uv n).length ≤ xs.length ∧ ints (uv n) = xs.take (uv n).length ∧ (k = 0 ∨ 0 < n)
  | [], k, acc, _, he => by
    unfold ug at he
    split at he <;> exact absurd he (by decide)
  | x :: xs, k, acc, hb, he => by
    obtain ⟨hx0, hx1⟩ := hb x (by simp)
    obtain ⟨y, rfl⟩ := Int.eq_ofNat_of_zero_le hx0
    rw [ug] at he ⊢
    split at he
    · exact absurd he (by decide)
    · rename_i h10
      rw [if_neg h10]
      split at he
      · exact absurd he (by decide)
      · rename_i h9
        rw [if_neg h9]
        split at he
        · rename_i h128
          rw [if_pos h128]
          split at he
          · exact absurd he (by decide)
          · rename_i hform
            rw [if_neg hform]
            refine ⟨y, ?_, ?_, ?_, ?_, by omega⟩
            · simp
            · rw [uv_small y (by omega)]; simp
            · rw [uv_small y (by omega)]; simp
            · rw [uv_small y (by omega)]; simp [ints]
        · rename_i h128
          rw [if_neg h128]
          obtain ⟨n, h1, h2, h3, h4, h5⟩ := ug_back xs _ _ (fun z hz => hb z (by simp [hz])) he
          have hn : 0 < n := by omega
          have e1 : ((y : Int).toNat - 128) = y - 128 := by omega
          have e2 : (128 * n + (y - 128)) % 128 + 128 = y := by omega
          have e3 : (128 * n + (y - 128)) / 128 = n := by omega
          refine ⟨128 * n + (y - 128), ?_, ?_, ?_, ?_, .inr (by omega)⟩
          · have e4 : acc + (y - 128) * 128 ^ k + n * (128 * 128 ^ k) = acc + (128 * n + (y - 128)) * 128 ^ k := by
              rw [Nat.add_mul, Nat.mul_comm 128 n, Nat.mul_assoc]
              omega
            rw [h1, e1, p128, e4]
          · rw [h2, uv_big (128 * n + (y - 128)) (by omega), e3, List.length_cons, Nat.add_assoc k 1, Nat.add_comm 1]
          · rw [uv_big (128 * n + (y - 128)) (by omega), e3]
            simpa using h3
          · rw [uv_big (128 * n + (y - 128)) (by omega), e3, e2, List.length_cons, List.take_succ_cons, ← h4]
            rfl
theorem uget_back (xs : List Int) (hb : ∀ x ∈ xs, 0 ≤ x ∧ x < 256) (he : (uget xs).2.2 = 0) :
    ∃ n : Nat, (uget xs).1 = (n : Int) ∧ (uget xs).2.1 = ((uv n).length : Int) ∧ (uv n).length ≤ xs.length ∧ ints (uv n) = xs.take (uv n).length := by
  obtain ⟨n, h1, h2, h3, h4, _⟩ := ug_back xs 0 0 hb he
  exact ⟨n, by simpa [uget] using h1, by simpa [uget] using h2, h3, h4⟩
end Go.Proofs.YtdckhaejhfkkbaaDoor
end
section
namespace Go.Proofs.YtdckhaejhfkkbaaDoor
open Go Bq
set_option linter.unusedVariables false
def Byts (xs : List Int) : Prop := ∀ x ∈ xs, 0 ≤ x ∧ x < 256
def bitAt (xs : List Int) (i : Nat) : Bool := ((xs.getD (i / 8) 0).toNat).testBit (7 - i % 8)
def bitsOf (xs : List Int) (n : Nat) : List Bool := (List.range n).map (bitAt xs)
theorem bitsOf_length (xs : List Int) (n : Nat) : (bitsOf xs n).length = n := by simp [bitsOf]
theorem bitsOf_get (xs : List Int) (n i : Nat) (h : i < n) : (bitsOf xs n)[i]'(by rw [bitsOf_length]; exact h) = bitAt xs i := by simp [bitsOf]
end Go.Proofs.YtdckhaejhfkkbaaDoor
end
section
namespace Go.Proofs.YtdckhaejhfkkbaaDoor.Pu
open Go Go.Proofs.YtdckhaejhfkkbaaDoor Bq
set_option linter.unusedVariables false
theorem byt_get {xs : List Int} (h : Byts xs) (i : Nat) (hi : i < xs.length) : 0 ≤ xs.getD i 0 ∧ xs.getD i 0 < 256 := by
  rw [List.getD_eq_getElem?_getD, List.getElem?_eq_getElem hi]
  exact h _ (List.getElem_mem hi)
theorem byt_drop {xs : List Int} (h : Byts xs) (n : Nat) : Byts (xs.drop n) := fun x hx => h x (List.mem_of_mem_drop hx)
theorem byt_take {xs : List Int} (h : Byts xs) (n : Nat) : Byts (xs.take n) := fun x hx => h x (List.mem_of_mem_take hx)
theorem byt_app {xs ys : List Int} (h : Byts xs) (h' : Byts ys) : Byts (xs ++ ys) := fun x hx => by
  rcases List.mem_append.1 hx with hx | hx
  · exact h x hx
  · exact h' x hx
theorem byt_uv (n : Nat) : Byts (Bq.ints (uv n)) := fun x hx => by
  obtain ⟨y, hy, rfl⟩ := List.mem_map.1 hx
  have := uv_lt n y hy
  exact ⟨by omega, by omega⟩
theorem drop_rd (xs : List Int) (i : Nat) (hi : i < xs.length) : xs.drop i = xs.getD i 0 :: xs.drop (i + 1) := by
  rw [List.drop_eq_getElem_cons hi, List.getD_eq_getElem?_getD, List.getElem?_eq_getElem hi]
  rfl
theorem wraps_u64n (n : Int) (h0 : 0 ≤ n) (h1 : n < 2 ^ 64) : IntKind.u64.wrap n = n := by
  rw [wrap_u64']
  omega
theorem comm_or (k : IntKind) (x y : Int) : bits .or k x y = bits .or k y x := by simp only [bits, BitVec.or_comm]
theorem and127n (x : Int) (h0 : 0 ≤ x) (h1 : x < 256) : bits .and .u8 x 127 = x % 128 := by
  have := bits_mask .u8 8 (by decide) wraps_u8 7 (by omega) x h0 (by omega)
  simpa using this
theorem or128n (x : Nat) (h1 : x < 256) : bits .or .u8 (x : Int) 128 = ((x % 128 + 128 : Nat) : Int) := by
  have e : (128 : Int) = ((128 : Nat) : Int) := rfl
  rw [e, Go.u8_or_nat x 128 h1 (by decide)]
  have h : ∀ a : Fin 256, (a.val ||| 128) = a.val % 128 + 128 := by decide +kernel
  rw [h ⟨x, h1⟩]
theorem pow7 (k : Nat) : (2 : Int) ^ (7 * k) = 128 ^ k := by rw [Int.pow_mul]; rfl
theorem val_bd (k acc : Nat) (x : Int) (hk : k < 10) (hx0 : 0 ≤ x) (hx1 : x < 256) (h9 : ¬ (k = 9 ∧ 1 < x)) (ha : acc < 128 ^ k) :
    (acc + (x % 128).toNat * 128 ^ k < 128 ^ (k + 1)) ∧ (acc + (x % 128).toNat * 128 ^ k < 18446744073709551616) := by
  have h1 : (x % 128).toNat < 128 := by omega
  constructor
  · rw [Nat.pow_succ]
    have : (x % 128).toNat * 128 ^ k ≤ 127 * 128 ^ k := Nat.mul_le_mul_right _ (by omega)
    omega
  · have hp : (128 : Nat) ^ k ≤ 128 ^ 9 := Nat.pow_le_pow_right (by decide) (by omega)
    rcases Nat.lt_or_ge k 9 with h | h
    · have hp2 : (128 : Nat) ^ k ≤ 128 ^ 8 := Nat.pow_le_pow_right (by decide) (by omega)
      have : (x % 128).toNat * 128 ^ k ≤ 127 * 128 ^ 8 := Nat.mul_le_mul (by omega) hp2
      omega
    · have hk9 : k = 9 := by omega
      subst hk9
      have : (x % 128).toNat ≤ 1 := by omega
      have : (x % 128).toNat * 128 ^ 9 ≤ 1 * 128 ^ 9 := Nat.mul_le_mul_right _ this
      omega
theorem val_shl (k : Nat) (y : Nat) : ((y : Int) * 2 ^ (7 * k)) = ((y * 128 ^ k : Nat) : Int) := by rw [pow7]; simp
theorem or_val (k acc : Nat) (x : Int) (hk : k < 10) (hx0 : 0 ≤ x) (hx1 : x < 256) (h9 : ¬ (k = 9 ∧ 1 < x)) (ha : acc < 128 ^ k) :
    bits .or .u64 (acc : Int) (IntKind.u64.wrap (x % 128 * 2 ^ (7 * k))) = ((acc + (x % 128).toNat * 128 ^ k : Nat) : Int) := by
  obtain ⟨h1, h2⟩ := val_bd k acc x hk hx0 hx1 h9 ha
  obtain ⟨y, hy⟩ := Int.eq_ofNat_of_zero_le (show 0 ≤ x % 128 by omega)
  rw [hy, Int.toNat_natCast] at h1 h2 ⊢
  rw [val_shl, wraps_u64n _ (by omega) (by omega), comm_or]
  have e3 : (2 : Nat) ^ (7 * k) = 128 ^ k := by rw [Nat.pow_mul]
  have e2 := bits_join .u64 64 (by decide) wraps_u64n (7 * k) ((y * 128 ^ k : Nat) : Int) (acc : Int) (by omega) (by
    have : y * 128 ^ k % 2 ^ (7 * k) = 0 := by rw [e3]; exact Nat.mul_mod_left _ _
    exact_mod_cast this) (by omega) (by omega) (by
    have : acc < 2 ^ (7 * k) := by rw [e3]; exact ha
    exact_mod_cast this) (by omega)
  rw [e2]
  omega
theorem add_val (k acc : Nat) (x : Int) (hk : k < 10) (hx0 : 0 ≤ x) (hx1 : x < 256) (h9 : ¬ (k = 9 ∧ 1 < x)) (ha : acc < 128 ^ k) :
    IntKind.u64.wrap ((acc : Int) + IntKind.u64.wrap (x % 128 * 2 ^ (7 * k))) = ((acc + (x % 128).toNat * 128 ^ k : Nat) : Int) := by
  obtain ⟨h1, h2⟩ := val_bd k acc x hk hx0 hx1 h9 ha
  obtain ⟨y, hy⟩ := Int.eq_ofNat_of_zero_le (show 0 ≤ x % 128 by omega)
  rw [hy, Int.toNat_natCast] at h1 h2 ⊢
  rw [val_shl, wraps_u64n ((y * 128 ^ k : Nat) : Int) (by omega) (by omega), wraps_u64n _ (by omega) (by omega)]
  omega
theorem sum_val (k acc : Nat) (x : Int) (hx0 : 0 ≤ x) (hx1 : x < 128) : ((acc + (x % 128).toNat * 128 ^ k : Nat) : Int) = (acc : Int) + x * 128 ^ k := by
  obtain ⟨y, rfl⟩ := Int.eq_ofNat_of_zero_le hx0
  rw [show ((y : Int) % 128).toNat = y by omega]
  simp
theorem more_val (k acc : Nat) (x : Int) (hx0 : 128 ≤ x) (hx1 : x < 256) : acc + (x % 128).toNat * 128 ^ k = acc + (x.toNat - 128) * 128 ^ k := by
  rw [show (x % 128).toNat = x.toNat - 128 by omega]
theorem g_stop9 (acc : Nat) (x : Int) (xs : List Int) (h : 1 < x) : ug 9 acc (x :: xs) = (0, 0, 9) := by rw [ug, if_neg (by decide), if_pos ⟨rfl, h⟩]
theorem g_form (k acc : Nat) (xs : List Int) (hk : k < 10) (h0 : 0 < k) : ug k acc (0 :: xs) = (0, 0, 8) := by rw [ug, if_neg (by omega), if_neg (by omega), if_pos (by decide), if_pos ⟨h0, rfl⟩]
theorem g_end (k acc : Nat) (x : Int) (xs : List Int) (hk : k < 10) (h9 : ¬ (k = 9 ∧ 1 < x)) (h128 : x < 128) (h0 : ¬ (0 < k ∧ x = 0)) : ug k acc (x :: xs) = ((acc : Int) + x * 128 ^ k, (k : Int) + 1, 0) := by
  rw [ug, if_neg (by omega), if_neg h9, if_pos h128, if_neg h0]
theorem g_more (k acc : Nat) (x : Int) (xs : List Int) (hk : k < 10) (h9 : ¬ (k = 9 ∧ 1 < x)) (h128 : ¬ x < 128) : ug k acc (x :: xs) = ug (k + 1) (acc + (x.toNat - 128) * 128 ^ k) xs := by
  rw [ug, if_neg (by omega), if_neg h9, if_neg h128]
theorem ug_bound : ∀ (xs : List Int) (k acc : Nat), Byts xs → k ≤ 10 → acc < 128 ^ k → 0 ≤ (ug k acc xs).1 ∧ (ug k acc xs).1 < 18446744073709551616
  | [], k, acc, _, _, _ => by
    unfold ug
    split <;> decide
  | x :: xs, k, acc, hb, hk, ha => by
    obtain ⟨x0, x1⟩ := hb x (by simp)
    by_cases h10 : 10 ≤ k
    · rw [ug, if_pos h10]
      decide
    · by_cases h9 : k = 9 ∧ 1 < x
      · rw [ug, if_neg h10, if_pos h9]
        decide
      · obtain ⟨v1, v2⟩ := val_bd k acc x (by omega) x0 x1 h9 ha
        by_cases h128 : x < 128
        · by_cases h0 : 0 < k ∧ x = 0
          · rw [ug, if_neg h10, if_neg h9, if_pos h128, if_pos h0]
            decide
          · rw [ug, if_neg h10, if_neg h9, if_pos h128, if_neg h0, ← sum_val k acc x x0 h128]
            exact ⟨by omega, by omega⟩
        · rw [ug, if_neg h10, if_neg h9, if_neg h128, ← more_val k acc x (by omega) x1]
          exact ug_bound xs (k + 1) _ (fun y hy => hb y (by simp [hy])) (by omega) v1
theorem ug_err : ∀ (xs : List Int) (k acc : Nat), ¬ (ug k acc xs).2.2 = 0 → (ug k acc xs).1 = 0 ∧ (ug k acc xs).2.1 = 0
  | [], k, acc, h => by
    unfold ug
    split <;> exact ⟨rfl, rfl⟩
  | x :: xs, k, acc, h => by
    rw [ug] at h ⊢
    by_cases h10 : 10 ≤ k
    · rw [if_pos h10]; exact ⟨rfl, rfl⟩
    · rw [if_neg h10] at h ⊢
      by_cases h9 : k = 9 ∧ 1 < x
      · rw [if_pos h9]; exact ⟨rfl, rfl⟩
      · rw [if_neg h9] at h ⊢
        by_cases h128 : x < 128
        · rw [if_pos h128] at h ⊢
          by_cases h0 : 0 < k ∧ x = 0
          · rw [if_pos h0]; exact ⟨rfl, rfl⟩
          · rw [if_neg h0] at h
            exact absurd rfl h
        · rw [if_neg h128] at h ⊢
          exact ug_err xs _ _ h
theorem uget_cases (xs : List Int) (hb : Byts xs) :
    (∃ n : Nat, uget xs = ((n : Int), ((uv n).length : Int), 0) ∧ (uv n).length ≤ xs.length ∧ Bq.ints (uv n) = xs.take (uv n).length ∧ n < 18446744073709551616) ∨ (∃ e : Int, ¬ e = 0 ∧ uget xs = (0, 0, e)) := by
  by_cases he : (uget xs).2.2 = 0
  · obtain ⟨n, h1, h2, h3, h4⟩ := uget_back xs hb he
    have h5 := (ug_bound xs 0 0 hb (by decide) (by decide)).2
    refine .inl ⟨n, ?_, h3, h4, ?_⟩
    · rw [← h1, ← h2, ← he]
    · have : (uget xs).1 < 18446744073709551616 := h5
      omega
  · obtain ⟨h1, h2⟩ := ug_err xs 0 0 he
    exact .inr ⟨(uget xs).2.2, he, by
      rw [show uget xs = ((uget xs).1, (uget xs).2.1, (uget xs).2.2) from rfl, show (uget xs).1 = 0 from h1, show (uget xs).2.1 = 0 from h2]⟩
theorem g_short (k acc : Nat) (hk : k < 10) : ug k acc [] = (0, 0, 6) := by rw [ug, if_pos hk]
theorem g_over (k acc : Nat) (xs : List Int) (hk : 10 ≤ k) : ug k acc xs = (0, 0, 9) := by
  cases xs with
  | nil => rw [ug, if_neg (by omega)]
  | cons x xs => rw [ug, if_pos hk]
end Go.Proofs.YtdckhaejhfkkbaaDoor.Pu
end
section
namespace Go.Proofs.YtdckhaejhfkkbaaDoorW.PrintWords
open Go Go.RowKit
set_option linter.unusedVariables false
namespace Kd
section
variable {P : Program} {ops : Array Oper} {rest : List Oper} {o : Oper} {a : Act} {Q : Exit → Act → World → Prop} {Kc : Act → World → Prop} {W : World}
variable {α : Type}
theorem R_makeU (d : Kd α) {w0 W : World} (base e : Nat) (hgd : o.guard = none) {N : Tmp} (hd : o.dst = some N) (t : TypeId) (x y : Operand) (ho : o.op = .makeSlice t x y) (n : Int) (hx : a.eval x = .int .u64 n) (hy : a.eval y = .int .u64 n)
    (ht : P.underlying t = some (.slice e)) (z : Value) (bytes : Nat) (hinfo : (P.info? e).map (fun i => (i.zero, i.size, i.bytes)) = some (some z, d.sz, bytes)) (hz : z.cells.size = d.sz) (hs0 : 0 < d.sz) (hb0 : 0 < bytes)
    (z0 : α) {ok okp : Nat → Prop} (hzero : d.M W base okp z0 z.cells.toList) (hok : ∀ k, okp k → ok k) (hfresh : ok W.heap.size) (h0 : 0 ≤ n) (hl : n.toNat * bytes ≤ 281474976710656) (HB : Below base w0 W) (hbase : base ≤ W.heap.size)
    (h : ∀ v1 w1, d.R e w1 base ok v1 (List.replicate n.toNat z0) → Below base w0 w1 → W.grownBy w1 none → (∃ b, v1.ownBlock = some b ∧ W.heap.size ≤ b) → wpList P ops Q rest (a.put o.dst v1) w1) : wpList P ops Q (o :: rest) a W := by
  obtain ⟨m, rfl⟩ := Int.eq_ofNat_of_zero_le h0
  simp only [Int.toNat_natCast] at hl h
  obtain ⟨i0, hi, hzz⟩ := Option.map_eq_some_iff.1 hinfo
  simp only [Prod.mk.injEq] at hzz
  obtain ⟨hz0, hz1, hz2⟩ := hzz
  have hm : m ≤ 281474976710656 := Nat.le_trans (Nat.le_mul_of_pos_right _ hb0) hl
  have hr := run_make (P := P) W t e i0 z ht hi hz0 .u64 .u64 (m : Int) (m : Int) (by omega) (by omega)
    (by
      have h3 : ((i0.bytes * m : Nat) : Int) ≤ 281474976710656 := by rw [hz2, Nat.mul_comm]; omega
      rwa [Int.natCast_mul] at h3) (by omega)
  simp only [Int.toNat_natCast] at hr
  rw [hz1] at hr
  refine R_lit d base e hgd hd (xs := List.replicate m z0) (inner := (madeCells z.cells (m * d.sz)).toList) (okp := okp) (ok := ok) ?_ (reps_made hz hs0 hzero m) hok hfresh HB hbase (by simp; omega) h
  simp [execOp, ho, hx, hy, hr]
end
end Kd
end Go.Proofs.YtdckhaejhfkkbaaDoorW.PrintWords
end
section
namespace Go.Proofs.YtdckhaejhfkkbaaDoorW.PrintLast
open Go.Proofs.YtdckhaejhfkkbaaDoorW.PrintWords (Aside0)
def needsOf (md : Region.Mode) (o : Oper) : List Nat := (o.after.toList.filter (fun e => Region.binds md e)).map (fun e => e.on)
def clashOf (md : Region.Mode) (ops : Array Oper) (i : Nat) (oi : Oper) : List Nat := (List.range ops.size).filter fun j => !(j == i) && match ops[j]? with
  | some oj => !(oj.after.any (fun e => Region.binds md e && e.on == i) || oi.apart ops oj)
  | none => false
def rtab (md : Region.Mode) (ops : Array Oper) : Bool × List (List Nat × List Nat) := (Region.noSelect ops, (List.range ops.size).map fun i => match ops[i]? with
  | some o => (needsOf md o, clashOf md ops i o)
  | none => ([], []))
def readyAt (T : List (List Nat × List Nat)) (l : List Bool) (i : Nat) : Bool := !l.getD i true && match T[i]? with
  | some r => r.1.all (fun j => l.getD j false)
  | none => false
def readyT (T : List (List Nat × List Nat)) (l : List Bool) : List Nat := (List.range T.length).filter (readyAt T l)
def freeT (T : List (List Nat × List Nat)) (l : List Bool) (i : Nat) : Bool := match T[i]? with
  | some r => r.2.all (fun j => l.getD j true)
  | none => false
def closedT (T : List (List Nat × List Nat)) (l : List Bool) : Bool := (List.range T.length).all fun j => !l.getD j false || match T[j]? with
  | some r => r.1.all (fun k => l.getD k false)
  | none => true
def reachT (T : List (List Nat × List Nat)) (i : Nat) : Nat → Nat → Bool
  | 0, _ => false
  | fuel + 1, d => match T[d]? with
    | some r => r.1.any fun j => j == i || reachT T i fuel j
    | none => false
def lastT (T : List (List Nat × List Nat)) (l : List Bool) (ds : List Nat) (i : Nat) : Bool := ds.all fun d => l.getD d true || reachT T i T.length d
section
variable {md : Region.Mode} {ops : Array Oper} {T : Bool × List (List Nat × List Nat)} {l l' li lj lk : Array Bool} {ds : List Nat} {i j k : Nat}
theorem gd (l : Array Bool) (j : Nat) (b : Bool) : l.getD j b = l.toList.getD j b := by simp [Array.getD_eq_getD_getElem?, List.getD_eq_getElem?_getD]
theorem needs_all (o : Oper) (p : Nat → Bool) : o.after.all (fun e => !Region.binds md e || p e.on) = (needsOf md o).all p := by
  unfold needsOf
  rw [← Array.all_toList]
  induction o.after.toList with
  | nil => rfl
  | cons e r ih =>
    rw [List.all_cons, ih, List.filter_cons]
    cases h : Region.binds md e <;> simp
theorem needs_any (o : Oper) (p : Nat → Bool) : o.after.any (fun e => Region.binds md e && p e.on) = (needsOf md o).any p := by
  unfold needsOf
  rw [← Array.any_toList]
  induction o.after.toList with
  | nil => rfl
  | cons e r ih =>
    rw [List.any_cons, ih, List.filter_cons]
    cases h : Region.binds md e <;> simp
theorem rtab_length : (rtab md ops).2.length = ops.size := by simp [rtab]
theorem rtab_some {o : Oper} (h : ops[i]? = some o) : (rtab md ops).2[i]? = some (needsOf md o, clashOf md ops i o) := by
  have hi := (Array.getElem?_eq_some_iff.1 h).1
  unfold rtab
  rw [List.getElem?_map, List.getElem?_range hi, Option.map_some, h]
theorem rtab_none (h : ops[i]? = none) : (rtab md ops).2[i]? = none := by
  have hi : ops.size ≤ i := Array.getElem?_eq_none_iff.1 h
  exact List.getElem?_eq_none (by rw [rtab_length]; exact hi)
theorem readyAt_eq : readyAt (rtab md ops).2 l.toList i = (!l.getD i true && ((ops[i]?).map (·.after.all fun e => !Region.binds md e || l.getD e.on false)).getD false) := by
  unfold readyAt
  rw [gd]
  cases h : ops[i]? with
  | none => rw [rtab_none h]; rfl
  | some o =>
    rw [rtab_some h]
    simp only [Option.map_some, Option.getD_some]
    rw [← needs_all]
    simp only [gd]
theorem ready_eq : Region.ready md ops l = readyT (rtab md ops).2 l.toList := by
  unfold Region.ready readyT
  rw [rtab_length]
  refine List.filter_congr (fun i _ => ?_)
  rw [readyAt_eq]
theorem free_eq : Region.free md ops l i = freeT (rtab md ops).2 l.toList i := by
  unfold Region.free freeT
  cases h : ops[i]? with
  | none => rw [rtab_none h]
  | some oi =>
    rw [rtab_some h]
    simp only [clashOf]
    rw [List.all_filter]
    congr 1
    funext j
    rw [gd]
    cases hj : ops[j]? with
    | none => cases (j == i) <;> cases (l.toList.getD j true) <;> simp
    | some oj =>
      cases (j == i) <;> cases (l.toList.getD j true) <;> cases (oj.after.any (fun e => Region.binds md e && e.on == i) || oi.apart ops oj) <;> simp_all
theorem closed_eq : Region.closedB md ops l = closedT (rtab md ops).2 l.toList := by
  unfold Region.closedB closedT
  rw [rtab_length]
  congr 1
  funext j
  rw [gd]
  cases h : ops[j]? with
  | none => rw [rtab_none h]
  | some o =>
    rw [rtab_some h]
    simp only
    rw [← needs_all]
    simp only [gd]
theorem reach_eq : ∀ (fuel d : Nat), Region.reachB md ops i fuel d = reachT (rtab md ops).2 i fuel d
  | 0, _ => rfl
  | fuel + 1, d => by
    unfold Region.reachB reachT
    cases h : ops[d]? with
    | none => rw [rtab_none h]
    | some o =>
      rw [rtab_some h]
      simp only
      rw [← needs_any]
      congr 1
      funext e
      rw [reach_eq fuel]
theorem last_eq : Region.lastB md ops l ds i = lastT (rtab md ops).2 l.toList ds i := by
  unfold Region.lastB lastT
  rw [rtab_length]
  congr 1
  funext d
  rw [gd, reach_eq]
theorem readyAt_mem (h : readyAt T.2 l.toList i = true) (hT : rtab md ops = T) : (Region.ready md ops l).contains i = true := by
  subst hT
  rw [ready_eq]
  unfold readyT
  rw [List.contains_iff_mem, List.mem_filter, List.mem_range]
  refine ⟨?_, h⟩
  unfold readyAt at h
  rw [Bool.and_eq_true] at h
  cases hq : (rtab md ops).2[i]? with
  | none => rw [hq] at h; simp at h
  | some r => exact (List.getElem?_eq_some_iff.1 hq).1
theorem set_of (h : (l.toList.set i true == l'.toList) = true) : (l.setIfInBounds i true == l') = true := by
  rw [beq_iff_eq] at h ⊢
  apply Array.ext'
  rw [Array.toList_setIfInBounds]
  exact h
def anyT (T : Bool × List (List Nat × List Nat)) (l l' : List Bool) (i : Nat) : Bool := T.1 && freeT T.2 l i && readyAt T.2 l i && (l.set i true == l')
theorem any_of (hT : rtab md ops = T) (h : anyT T l.toList l'.toList i = true) : anyB md ops l l' i = true := by
  simp only [anyT, Bool.and_eq_true] at h
  obtain ⟨⟨⟨h1, h2⟩, h3⟩, h4⟩ := h
  have h5 := readyAt_mem h3 hT
  have h6 := set_of h4
  subst hT
  simp only [anyB, Bool.and_eq_true]
  exact ⟨⟨⟨h1, by rw [free_eq]; exact h2⟩, h5⟩, h6⟩
def takeT (T : Bool × List (List Nat × List Nat)) (ds : List Nat) (l l' : List Bool) (i : Nat) : Bool := T.1 && freeT T.2 l i && readyAt T.2 l i && closedT T.2 l && lastT T.2 l ds i && (l.set i true == l')
theorem take_of (hT : rtab md ops = T) (h : takeT T ds l.toList l'.toList i = true) : takeB md ops ds l l' i = true := by
  simp only [takeT, Bool.and_eq_true] at h
  obtain ⟨⟨⟨⟨⟨h1, h2⟩, h3⟩, h4⟩, h5⟩, h6⟩ := h
  have h7 := readyAt_mem h3 hT
  have h8 := set_of h6
  subst hT
  simp only [takeB, Bool.and_eq_true]
  exact ⟨⟨⟨⟨⟨h1, by rw [free_eq]; exact h2⟩, h7⟩, by rw [closed_eq]; exact h4⟩, by rw [last_eq]; exact h5⟩, h8⟩
theorem one_of (hT : rtab md ops = T) (h : (readyT T.2 l.toList == [i] && l.toList.set i true == l'.toList) = true) : readyB md ops l l' i = true := by
  simp only [Bool.and_eq_true] at h
  obtain ⟨h1, h2⟩ := h
  subst hT
  simp only [readyB, Bool.and_eq_true]
  exact ⟨by rw [ready_eq]; exact h1, set_of h2⟩
theorem done_of (hT : rtab md ops = T) (h : (readyT T.2 l.toList == []) = true) : (Region.ready md ops l == []) = true := by
  subst hT
  rw [ready_eq]
  exact h
def upM (B : List Nat) (d : Nat) : List Nat → Nat
  | [] => 0
  | n :: r => (2 ^ n ||| (if n < d then B.getD n 0 else 0)) ||| upM B d r
def waitsOk (T : List (List Nat × List Nat)) (B : List Nat) : Bool := (List.range T.length).all fun d => match T[d]? with
  | some r => (B.getD d 0 ||| upM B d r.1) == upM B d r.1
  | none => false
theorem upM_bit {B : List Nat} {d i : Nat} : ∀ {ns : List Nat}, (upM B d ns).testBit i = true → ∃ n ∈ ns, n = i ∨ (n < d ∧ (B.getD n 0).testBit i = true)
  | [], h => by simp [upM] at h
  | n :: r, h => by
    unfold upM at h
    rw [Nat.testBit_or, Nat.testBit_or, Bool.or_eq_true, Bool.or_eq_true] at h
    rcases h with (h | h) | h
    · rw [Nat.testBit_two_pow] at h
      exact ⟨n, List.mem_cons_self, .inl (by simpa using h)⟩
    · by_cases hn : n < d
      · rw [if_pos hn] at h
        exact ⟨n, List.mem_cons_self, .inr ⟨hn, h⟩⟩
      · rw [if_neg hn] at h
        simp at h
    · obtain ⟨m, hm, h2⟩ := upM_bit h
      exact ⟨m, List.mem_cons_of_mem _ hm, h2⟩
theorem reach_bit {T : List (List Nat × List Nat)} {B : List Nat} (hB : waitsOk T B = true) : ∀ (fuel d : Nat), d < fuel → d < T.length → (B.getD d 0).testBit i = true → reachT T i fuel d = true
  | 0, d, h, _, _ => by omega
  | fuel + 1, d, h, hd, hb => by
    have h1 := List.all_eq_true.1 hB d (List.mem_range.2 hd)
    cases hr : T[d]? with
    | none => rw [hr] at h1; simp at h1
    | some r =>
      rw [hr] at h1
      simp only [beq_iff_eq] at h1
      have h2 : (upM B d r.1).testBit i = true := by rw [← h1, Nat.testBit_or, hb, Bool.true_or]
      obtain ⟨n, hn, h3⟩ := upM_bit h2
      unfold reachT
      rw [hr]
      simp only
      rw [List.any_eq_true]
      refine ⟨n, hn, ?_⟩
      rcases h3 with rfl | ⟨h4, h5⟩
      · simp
      · rw [reach_bit hB fuel n (by omega) (by omega) h5, Bool.or_true]
def lastW (T : List (List Nat × List Nat)) (B : List Nat) (l : List Bool) (ds : List Nat) (i : Nat) : Bool := ds.all fun d => l.getD d true || (decide (d < T.length) && (B.getD d 0).testBit i)
def takeW (T : Bool × List (List Nat × List Nat)) (B : List Nat) (ds : List Nat) (l l' : List Bool) (i : Nat) : Bool := T.1 && freeT T.2 l i && readyAt T.2 l i && closedT T.2 l && lastW T.2 B l ds i && (l.set i true == l')
theorem take_ofW {B : List Nat} (hT : rtab md ops = T) (hB : waitsOk T.2 B = true) (h : takeW T B ds l.toList l'.toList i = true) : takeB md ops ds l l' i = true := by
  refine take_of hT ?_
  simp only [takeW, takeT, Bool.and_eq_true] at h ⊢
  obtain ⟨⟨⟨⟨⟨h1, h2⟩, h3⟩, h4⟩, h5⟩, h6⟩ := h
  refine ⟨⟨⟨⟨⟨h1, h2⟩, h3⟩, h4⟩, ?_⟩, h6⟩
  unfold lastW at h5
  unfold lastT
  rw [List.all_eq_true] at h5 ⊢
  intro d hd
  have h7 := h5 d hd
  rw [Bool.or_eq_true, Bool.and_eq_true, decide_eq_true_eq] at h7
  rcases h7 with h7 | ⟨h8, h9⟩
  · rw [h7, Bool.true_or]
  · rw [reach_bit hB _ d h8 h8 h9, Bool.or_true]
theorem with_tabW {P : Program} {Q : Exit → Act → World → Prop} {S : World → Prop} {n : Nat} {a : Act} {w : World} {B : List Nat} (hT : rtab md ops = T) (hB : waitsOk T.2 B = true) (h : Aside0 (rtab md ops = T) → Aside0 (waitsOk T.2 B = true) → wpAnyLast P md ops Q S ds n l a w) : wpAnyLast P md ops Q S ds n l a w := h ⟨hT⟩ ⟨hB⟩
end
def opsIn : Code → Nat → Option (Array Oper)
  | .region id ops _, k => if id == k then some ops else none
  | .seq a b, k => match opsIn a k with
    | some o => some o
    | none => opsIn b k
  | .cond _ a b, k => match opsIn a k with
    | some o => some o
    | none => opsIn b k
  | .block _ c, k => opsIn c k
  | .loop c, k => opsIn c k
  | .scope c, k => opsIn c k
  | .rangeFunc _ _ a b, k => match opsIn a k with
    | some o => some o
    | none => opsIn b k
  | _, _ => none
def opsOf (f : Func) (k : Nat) : Array Oper := ((f.body.bind fun c => opsIn c k)).getD #[]
end Go.Proofs.YtdckhaejhfkkbaaDoorW.PrintLast
end
section
namespace Go.Proofs.YtdckhaejhfkkbaaDoorW.PrintWords
open Go.RowKit
section
variable {P : Program} {d : Nat} {xs ys : Array Value} {f : Field} {fs : List Field} {a b : Value} {r s : Bool} {w : World}
theorem eqf_last (hn : (f.name == "_") = false) (ha : (part f.type xs f.offset).run P w = .ok a w) (hb : (part f.type ys f.offset).run P w = .ok b w) (he : (Op.equalIn d f.type a b).run P w = .ok r w) : (Op.eqFields d xs ys [f]).run P w = .ok r w := by
  have hn' : f.name ≠ "_" := by simpa using hn
  simp only [Op.eqFields, if_pos hn', Sem.run_bind, ha, hb, he, Result.andThen_ok]
  cases r <;> simp
theorem eqf_cons (hn : (f.name == "_") = false) (ha : (part f.type xs f.offset).run P w = .ok a w) (hb : (part f.type ys f.offset).run P w = .ok b w) (he : (Op.equalIn d f.type a b).run P w = .ok r w) (hr : (Op.eqFields d xs ys fs).run P w = .ok s w) : (Op.eqFields d xs ys (f :: fs)).run P w = .ok (r && s) w := by
  have hn' : f.name ≠ "_" := by simpa using hn
  rw [Op.eqFields]
  simp only [if_pos hn', Sem.run_bind, ha, hb, he, Result.andThen_ok]
  cases r
  · simp
  · simpa using hr
theorem eqA_of {t : TypeId} {fs : Array Field} (hu : P.underlying t = some (.struct fs)) (hp : P.stoodInHeld t = false) (h : (Op.eqFields d xs ys fs.toList).run P w = .ok r w) : (Op.equalIn (d + 1) t (.agg xs) (.agg ys)).run P w = .ok r w := by
  have hf : P.fieldsOf t = fs := by simp [Program.fieldsOf, hu]
  rw [run_equalIn_struct (P := P) w d t xs ys (by rw [hf]; exact hu) hp, hf]
  exact h
end
end Go.Proofs.YtdckhaejhfkkbaaDoorW.PrintWords
end
section
namespace Go.Proofs.YtdckhaejhfkkbaaDoorW.PrintWords
theorem Reps.one {α : Type} {R : α → List Value → Prop} {ps : List α} {cs : List Value} {p : α} {v : Value} (hp : R p [v]) (h : Reps R 1 ps cs) : Reps R 1 (p :: ps) (v :: cs) := by
  refine ⟨by simp [h.1], fun j q hq => ?_⟩
  cases j with
  | zero =>
    simp only [List.getElem?_cons_zero, Option.some.injEq] at hq
    subst hq
    simpa using hp
  | succ j =>
    simp only [List.getElem?_cons_succ] at hq
    have h1 := h.2 j q hq
    simpa [Nat.mul_one] using h1
theorem Reps.front {α : Type} {R : α → List Value → Prop} {size : Nat} {ps : List α} {cs c all : List Value} {p : α} (hp : R p c) (hc : c.length = size) (h : Reps R size ps cs) (ha : c ++ cs = all) : Reps R size (p :: ps) all := by
  subst ha
  refine ⟨by rw [List.length_append, hc, h.1, List.length_cons, Nat.succ_mul, Nat.add_comm], fun j q hq => ?_⟩
  cases j with
  | zero =>
    simp only [List.getElem?_cons_zero, Option.some.injEq] at hq
    subst hq
    rw [Nat.zero_mul, List.drop_zero, List.take_append_of_le_length (by omega), List.take_of_length_le (by omega)]
    exact hp
  | succ j =>
    simp only [List.getElem?_cons_succ] at hq
    have h1 := h.2 j q hq
    rw [Nat.succ_mul, List.drop_append, List.drop_of_length_le (by rw [hc]; exact Nat.le_add_left _ _), List.nil_append, hc, Nat.add_sub_cancel]
    exact h1
theorem Reps.c2 {α : Type} {R : α → List Value → Prop} {ps : List α} {cs : List Value} {p : α} {va vb : Value} (hp : R p [va, vb]) (h : Reps R 2 ps cs) : Reps R 2 (p :: ps) (va :: vb :: cs) := Reps.front hp rfl h rfl
theorem Reps.c3 {α : Type} {R : α → List Value → Prop} {ps : List α} {cs : List Value} {p : α} {va vb vc : Value} (hp : R p [va, vb, vc]) (h : Reps R 3 ps cs) : Reps R 3 (p :: ps) (va :: vb :: vc :: cs) := Reps.front hp rfl h rfl
theorem Reps.c4 {α : Type} {R : α → List Value → Prop} {ps : List α} {cs : List Value} {p : α} {va vb vc vd : Value} (hp : R p [va, vb, vc, vd]) (h : Reps R 4 ps cs) : Reps R 4 (p :: ps) (va :: vb :: vc :: vd :: cs) := Reps.front hp rfl h rfl
theorem Reps.c5 {α : Type} {R : α → List Value → Prop} {ps : List α} {cs : List Value} {p : α} {va vb vc vd ve : Value} (hp : R p [va, vb, vc, vd, ve]) (h : Reps R 5 ps cs) : Reps R 5 (p :: ps) (va :: vb :: vc :: vd :: ve :: cs) := Reps.front hp rfl h rfl
theorem Reps.c6 {α : Type} {R : α → List Value → Prop} {ps : List α} {cs : List Value} {p : α} {va vb vc vd ve vf : Value} (hp : R p [va, vb, vc, vd, ve, vf]) (h : Reps R 6 ps cs) : Reps R 6 (p :: ps) (va :: vb :: vc :: vd :: ve :: vf :: cs) := Reps.front hp rfl h rfl
theorem Reps.c7 {α : Type} {R : α → List Value → Prop} {ps : List α} {cs : List Value} {p : α} {va vb vc vd ve vf vg : Value} (hp : R p [va, vb, vc, vd, ve, vf, vg]) (h : Reps R 7 ps cs) : Reps R 7 (p :: ps) (va :: vb :: vc :: vd :: ve :: vf :: vg :: cs) := Reps.front hp rfl h rfl
theorem Reps.c8 {α : Type} {R : α → List Value → Prop} {ps : List α} {cs : List Value} {p : α} {va vb vc vd ve vf vg vh : Value} (hp : R p [va, vb, vc, vd, ve, vf, vg, vh]) (h : Reps R 8 ps cs) : Reps R 8 (p :: ps) (va :: vb :: vc :: vd :: ve :: vf :: vg :: vh :: cs) := Reps.front hp rfl h rfl
theorem Reps.c9 {α : Type} {R : α → List Value → Prop} {ps : List α} {cs : List Value} {p : α} {va vb vc vd ve vf vg vh vi : Value} (hp : R p [va, vb, vc, vd, ve, vf, vg, vh, vi]) (h : Reps R 9 ps cs) : Reps R 9 (p :: ps) (va :: vb :: vc :: vd :: ve :: vf :: vg :: vh :: vi :: cs) := Reps.front hp rfl h rfl
theorem Reps.c10 {α : Type} {R : α → List Value → Prop} {ps : List α} {cs : List Value} {p : α} {va vb vc vd ve vf vg vh vi vj : Value} (hp : R p [va, vb, vc, vd, ve, vf, vg, vh, vi, vj]) (h : Reps R 10 ps cs) : Reps R 10 (p :: ps) (va :: vb :: vc :: vd :: ve :: vf :: vg :: vh :: vi :: vj :: cs) := Reps.front hp rfl h rfl
end Go.Proofs.YtdckhaejhfkkbaaDoorW.PrintWords
end
section
namespace Go.Proofs.YtdckhaejhfkkbaaDoorW.PrintWords
open Go.RowKit
section
variable {P : Program} {ops : Array Oper} {rest : List Oper} {o : Oper} {a : Act} {Q : Exit → Act → World → Prop} {W : World}
theorem gate_guard (hw : Region.wanted o (yielded ops a.tmps) = true) (h : wpList P ops Q ({ o with guard := none } :: rest) a W) : wpList P ops Q (o :: rest) a W := by
  have h1 : Region.wanted { o with guard := none } (yielded ops a.tmps) = true := rfl
  unfold wpList at h ⊢
  rw [if_pos h1] at h
  rw [if_pos hw]
  exact h
end
end Go.Proofs.YtdckhaejhfkkbaaDoorW.PrintWords
end
