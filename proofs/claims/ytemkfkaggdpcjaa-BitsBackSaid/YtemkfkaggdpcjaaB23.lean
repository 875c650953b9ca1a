/- BitsBack: its walk. -/
import Derived.Test.YtemkfkaggdpcjaaB22
import Derived.Test.YtemkfkaggdpcjaaB7
namespace Go.Proofs.Ytemkfkaggdpcjaa
open Go.RowKit Go.Proofs.YtemkfkaggdpcjaaW.PrintWords Go.Proofs.YtemkfkaggdpcjaaW.PrintMore Go.Proofs.YtemkfkaggdpcjaaW.PrintLast Bq
set_option linter.unusedVariables false
set_option linter.unusedSimpArgs false
attribute [local go_sem ↓] Go.wp_at_zero Go.wp_at_succ

/-- A Writer and a row of Ops apart. -/
structure OIn (w wr : World) (okW okR : Nat → Prop) (g : Nat) (bs : List Bool) (vr : Value) (os : List (Int × Int)) : Prop where
  wr_ : Wr wr okW g bs
  row : kOp.R 30 wr w.heap.size okR vr os
  bw : ∀ k, okW k → w.heap.size ≤ k ∧ k < wr.heap.size
  br : ∀ k, okR k → w.heap.size ≤ k ∧ k < wr.heap.size ∧ ¬ okW k
  below : Below w.heap.size w wr
def OSt (w wr : World) (g : Nat) (bs : List Bool) (vr : Value) (os : List (Int × Int)) (h8 : Nat) (o : Obj) : Prop :=
  ∃ okW okR, OIn w wr okW okR g bs vr os ∧ wr.heap[h8]? = some o ∧ ¬ okW h8 ∧ ¬ okR h8
def OS0 (w wr : World) (g : Nat) (bs : List Bool) (vr : Value) (os : List (Int × Int)) : Prop := ∃ okW okR, OIn w wr okW okR g bs vr os
theorem OSt.forget {w wr : World} {g : Nat} {bs : List Bool} {vr : Value} {os : List (Int × Int)} {h8 : Nat} {o : Obj} (h : OSt w wr g bs vr os h8 o) : OS0 w wr g bs vr os := by
  obtain ⟨a, b, h, _⟩ := h
  exact ⟨a, b, h⟩
theorem OSt.blk {w wr : World} {g : Nat} {bs : List Bool} {vr : Value} {os : List (Int × Int)} {h8 : Nat} {o : Obj} (h : OSt w wr g bs vr os h8 o) : wr.heap[h8]? = some o := by
  obtain ⟨a, b, _, h, _⟩ := h
  exact h
theorem OS0.below {w wr : World} {g : Nat} {bs : List Bool} {vr : Value} {os : List (Int × Int)} (h : OS0 w wr g bs vr os) : Below w.heap.size w wr := by
  obtain ⟨a, b, h⟩ := h
  exact h.below
theorem OS0.row {w wr : World} {g : Nat} {bs : List Bool} {vr : Value} {os : List (Int × Int)} (h : OS0 w wr g bs vr os) : ∃ A c, vr = .slice A os.length c := by
  obtain ⟨a, b, h⟩ := h
  exact Kd.R_slice h.row
theorem OIn.step {w wr w2 : World} {okW okR : Nat → Prop} {g : Nat} {bs : List Bool} {vr : Value} {os : List (Int × Int)} (h : OIn w wr okW okR g bs vr os) (hb : Below wr.heap.size wr w2) : OIn w w2 okW okR g bs vr os := by
  have hs := hb.size
  refine ⟨h.wr_.kept (Mod.of_below hb (fun _ => False)) (fun _ _ _ h => h), Kd.R_step h.row (fun k hk hk2 => hb.block k hk2), fun k hk => ⟨(h.bw k hk).1, Nat.lt_of_lt_of_le (h.bw k hk).2 hs⟩, fun k hk => ⟨(h.br k hk).1, Nat.lt_of_lt_of_le (h.br k hk).2.1 hs, (h.br k hk).2.2⟩, h.below.trans (hb.mono h.below.size)⟩
theorem OS0.step {w wr w2 : World} {g : Nat} {bs : List Bool} {vr : Value} {os : List (Int × Int)} (h : OS0 w wr g bs vr os) (hb : Below wr.heap.size wr w2) : OS0 w w2 g bs vr os := by
  obtain ⟨a, b, h⟩ := h
  exact ⟨a, b, h.step hb⟩
theorem OS0.alloc {w wr : World} {g : Nat} {bs : List Bool} {vr : Value} {os : List (Int × Int)} (h : OS0 w wr g bs vr os) (cs : Array Value) (T : Nat) :
    OSt w (wr.alloc (.cells cs T)) g bs vr os wr.heap.size (.cells cs T (0, 0)) := by
  obtain ⟨a, b, h⟩ := h
  exact ⟨a, b, h.step (below_alloc (Below.refl _ wr) _), blk_new wr _, fun hk => Nat.lt_irrefl _ (h.bw _ hk).2, fun hk => Nat.lt_irrefl _ (h.br _ hk).2.1⟩
theorem OSt.put {w wr : World} {g : Nat} {bs : List Bool} {vr : Value} {os : List (Int × Int)} {h8 : Nat} {o : Obj} (h : OSt w wr g bs vr os h8 o) (n : Nat) (width : Int) (hN : bs.length ≤ 8388608) (hn : n < 18446744073709551616)
    (hw1 : -9223372036854775808 ≤ width) (hw2 : width ≤ 9223372036854775807) :
    Calls Try.prog 13 #[.pointer (some ⟨g, 0, none⟩), .int .u64 n, .int .i64 width] wr fun e w' =>
      e = .returned (.int .i64 (putE bs.length width n)) ∧ OSt w w' g (putBits bs width n) vr os h8 o := by
  obtain ⟨okW, okR, h, h1, h2, h3⟩ := h
  refine (put_calls wr okW g bs n width h.wr_ hN hn hw1 hw2).mono ?_
  rintro e w' ⟨rfl, hW, hM⟩
  refine ⟨rfl, (fun k => (okW k ∨ wr.heap.size ≤ k) ∧ k < w'.heap.size), okR, ⟨hW.bound, Kd.R_step h.row (fun k hk hk2 => hM.block k hk2 (h.br k hk).2.2), fun k hk => ⟨?_, hk.2⟩, fun k hk => ⟨(h.br k hk).1, Nat.lt_of_lt_of_le (h.br k hk).2.1 hM.size, fun hk2 => ?_⟩, h.below.trans (hM.below (B := w.heap.size) h.below.size (fun k hk => (h.bw k hk).1))⟩, (hM.block h8 (blk_lt h1) h2).trans h1, fun hk => ?_, h3⟩
  · rcases hk.1 with hk | hk
    · exact (h.bw k hk).1
    · exact Nat.le_trans h.below.size hk
  · rcases hk2.1 with hk2 | hk2
    · exact (h.br k hk).2.2 hk2
    · exact Nat.lt_irrefl _ (Nat.lt_of_lt_of_le (h.br k hk).2.1 hk2)
  · rcases hk.1 with hk | hk
    · exact h2 hk
    · exact Nat.lt_irrefl _ (Nat.lt_of_lt_of_le (blk_lt h1) hk)
theorem OS0.start {w w1 w2 : World} {g : Nat} (hW : Wr w1 (fun k => w.heap.size ≤ k) g []) (hB : Below w.heap.size w w1) (hB2 : Below w1.heap.size w1 w2) :
    OS0 w (w2.alloc (.cells #[] 30)) g [] (.slice (some ⟨w2.heap.size, 0, none⟩) 0 0) [] := by
  have hs := hB.size
  have hs2 := hB2.size
  have hW2 := hW.bound.kept (Mod.of_below hB2 (fun _ => False)) (fun _ _ _ h => h)
  have hW3 := hW2.kept (S := fun _ => False) (Mod.alloc (Mod.refl _ w2) (.cells #[] 30)) (fun _ _ _ h => h)
  refine ⟨_, (fun k => k = w2.heap.size), hW3, R_empty kOp 30 w2 w.heap.size _ (by omega) rfl, fun k hk => ⟨hk.1, by simp; omega⟩, fun k hk => ⟨by omega, by simp; omega, fun hk2 => by omega⟩, below_alloc (hB.trans (hB2.mono hs)) _⟩
/-- The row has grown by an Op. -/
theorem OS0.grown {w wr w2 : World} {g : Nat} {bs : List Bool} {vr v2 : Value} {os os2 : List (Int × Int)} (okW okR : Nat → Prop) (h : OIn w wr okW okR g bs vr os) (hR : kOp.R 30 w2 w.heap.size (fun k => okR k ∨ wr.heap.size ≤ k) v2 os2) (hg : wr.grownBy w2 vr.ownBlock) : OS0 w w2 g bs v2 os2 := by
  have hM : Mod okR wr w2 := (Mod.refl okR wr).grown hg (fun k hk => .inl (h.row.1 k hk))
  have hs := hM.size
  refine ⟨okW, (fun k => (okR k ∨ wr.heap.size ≤ k) ∧ k < w2.heap.size), h.wr_.kept hM (fun k hk _ hr => (h.br k hr).2.2 hk), Kd.R_mono (Kd.R_bound hR) (fun k hk => ⟨hk.1, hk.2.2.1⟩), fun k hk => ⟨(h.bw k hk).1, Nat.lt_of_lt_of_le (h.bw k hk).2 hs⟩, fun k hk => ⟨?_, hk.2, fun hk2 => ?_⟩, h.below.trans (hM.below (B := w.heap.size) h.below.size (fun k hk => (h.br k hk).1))⟩
  · rcases hk.1 with hk | hk
    · exact (h.br k hk).1
    · exact Nat.le_trans h.below.size hk
  · rcases hk.1 with hk | hk
    · exact (h.br k hk).2.2 hk2
    · exact Nat.lt_irrefl _ (Nat.lt_of_lt_of_le (h.bw k hk2).2 hk)
theorem OS0.len {w wr : World} {g : Nat} {bs : List Bool} {vr : Value} {os : List (Int × Int)} (h : OS0 w wr g bs vr os) :
    Calls Try.prog 16 #[.pointer (some ⟨g, 0, none⟩)] wr fun e w' => e = .returned (.int .i64 bs.length) ∧ wr = w' := by
  obtain ⟨a, b, h⟩ := h
  exact wlen_calls wr a g bs h.wr_
theorem OS0.bytes {w wr : World} {g : Nat} {bs : List Bool} {vr : Value} {os : List (Int × Int)} (h : OS0 w wr g bs vr os) (hN : bs.length ≤ 8388608) (P : List Int) (hP : P = packI bs) :
    Calls Try.prog 18 #[.pointer (some ⟨g, 0, none⟩)] wr fun e w' => ∃ A c, e = .returned (.slice A P.length c) ∧ (Kd.int .u8).C w' A P.length P ∧ OS0 w w' g bs vr os := by
  subst hP
  have h0 := h
  obtain ⟨a, b, h⟩ := h
  refine (wbytes_calls wr a g bs h.wr_ hN).mono ?_
  rintro e w' ⟨v, rfl, hR, hB⟩
  obtain ⟨A, c, rfl, _, hC⟩ := Kd.R_reads hR
  exact ⟨A, c, rfl, hC, h0.step hB⟩

/-- The bits of Ops. -/
def opBits (os : List (Int × Int)) : List Bool := os.flatMap fun o => nb o.1.toNat o.2.toNat
/-- An Op that is put. -/
def Good (o : Int × Int) : Prop := 0 ≤ o.1 ∧ 0 ≤ o.2 ∧ o.2 ≤ 64 ∧ o.1.toNat < 2 ^ o.2.toNat
theorem opBits_snoc (os : List (Int × Int)) (o : Int × Int) : opBits (os ++ [o]) = opBits os ++ nb o.1.toNat o.2.toNat := by simp [opBits]
theorem opBits_drop (os : List (Int × Int)) (k : Nat) (h : k < os.length) : opBits (os.drop k) = nb (os.getD k (0, 0)).1.toNat (os.getD k (0, 0)).2.toNat ++ opBits (os.drop (k + 1)) := by
  rw [List.drop_eq_getElem_cons h, List.getD_eq_getElem?_getD, List.getElem?_eq_getElem h]
  rfl
/-- The next one is got. -/
theorem get_op (n : Nat) (wd : Int) (r : List Bool) (h0 : 0 ≤ wd) (h1 : wd ≤ 64) (hn : n < 2 ^ wd.toNat) :
    getE (nb n wd.toNat ++ r) wd = 0 ∧ getN (nb n wd.toNat ++ r) wd = n ∧ getR (nb n wd.toNat ++ r) wd = r := by
  have hE : getE (nb n wd.toNat ++ r) wd = 0 := by
    unfold getE
    rw [if_neg (by omega), if_neg (by rw [List.length_append, nb_length]; omega)]
  refine ⟨hE, ?_, ?_⟩
  · unfold getN
    rw [if_pos hE, List.take_left' (nb_length _ _), bnum_nb, Nat.mod_eq_of_lt hn]
  · unfold getR
    rw [if_pos hE, List.drop_left' (nb_length _ _)]
end Go.Proofs.Ytemkfkaggdpcjaa
