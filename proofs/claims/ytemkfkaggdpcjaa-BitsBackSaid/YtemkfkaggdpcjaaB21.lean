/- BitsWrites: what a round keeps. -/
import Derived.Test.YtemkfkaggdpcjaaB20
import Derived.Test.YtemkfkaggdpcjaaB14
namespace Go.Proofs.Ytemkfkaggdpcjaa
open Go.RowKit Go.Proofs.YtemkfkaggdpcjaaW.PrintWords Go.Proofs.YtemkfkaggdpcjaaW.PrintMore Go.Proofs.YtemkfkaggdpcjaaW.PrintLast Bq
set_option linter.unusedVariables false
set_option linter.unusedSimpArgs false
attribute [local go_sem ↓] Go.wp_at_zero Go.wp_at_succ

/-- A Writer and a row apart. -/
structure WIn (w wr : World) (okW okR : Nat → Prop) (g : Nat) (bs : List Bool) (vr : Value) (rs : List Bool) : Prop where
  wr_ : Wr wr okW g bs
  row : Kd.bool.R 4 wr w.heap.size okR vr rs
  bw : ∀ k, okW k → w.heap.size ≤ k ∧ k < wr.heap.size
  br : ∀ k, okR k → w.heap.size ≤ k ∧ k < wr.heap.size ∧ ¬ okW k
  below : Below w.heap.size w wr
def WSt (w wr : World) (g : Nat) (bs : List Bool) (vr : Value) (rs : List Bool) (h8 : Nat) (o : Obj) : Prop :=
  ∃ okW okR, WIn w wr okW okR g bs vr rs ∧ wr.heap[h8]? = some o ∧ ¬ okW h8 ∧ ¬ okR h8
def WS0 (w wr : World) (g : Nat) (bs : List Bool) (vr : Value) (rs : List Bool) : Prop := ∃ okW okR, WIn w wr okW okR g bs vr rs
theorem WSt.forget {w wr : World} {g : Nat} {bs : List Bool} {vr : Value} {rs : List Bool} {h8 : Nat} {o : Obj} (h : WSt w wr g bs vr rs h8 o) : WS0 w wr g bs vr rs := by
  obtain ⟨a, b, h, _⟩ := h
  exact ⟨a, b, h⟩
theorem WS0.below {w wr : World} {g : Nat} {bs : List Bool} {vr : Value} {rs : List Bool} (h : WS0 w wr g bs vr rs) : Below w.heap.size w wr := by
  obtain ⟨a, b, h⟩ := h
  exact h.below
theorem WIn.step {w wr w2 : World} {okW okR : Nat → Prop} {g : Nat} {bs : List Bool} {vr : Value} {rs : List Bool} (h : WIn w wr okW okR g bs vr rs) (hb : Below wr.heap.size wr w2) : WIn w w2 okW okR g bs vr rs := by
  have hs := hb.size
  refine ⟨h.wr_.kept (Mod.of_below hb (fun _ => False)) (fun _ _ _ h => h), Kd.R_step h.row (fun k hk hk2 => hb.block k hk2), fun k hk => ⟨(h.bw k hk).1, Nat.lt_of_lt_of_le (h.bw k hk).2 hs⟩, fun k hk => ⟨(h.br k hk).1, Nat.lt_of_lt_of_le (h.br k hk).2.1 hs, (h.br k hk).2.2⟩, h.below.trans (hb.mono h.below.size)⟩
theorem WS0.step {w wr w2 : World} {g : Nat} {bs : List Bool} {vr : Value} {rs : List Bool} (h : WS0 w wr g bs vr rs) (hb : Below wr.heap.size wr w2) : WS0 w w2 g bs vr rs := by
  obtain ⟨a, b, h⟩ := h
  exact ⟨a, b, h.step hb⟩
theorem WSt.step {w wr w2 : World} {g : Nat} {bs : List Bool} {vr : Value} {rs : List Bool} {h8 : Nat} {o : Obj} (h : WSt w wr g bs vr rs h8 o) (hb : Below wr.heap.size wr w2) : WSt w w2 g bs vr rs h8 o := by
  obtain ⟨a, b, h, h1, h2, h3⟩ := h
  exact ⟨a, b, h.step hb, (hb.block h8 (blk_lt h1)).trans h1, h2, h3⟩
/-- The round's own block is laid. -/
theorem WS0.alloc {w wr : World} {g : Nat} {bs : List Bool} {vr : Value} {rs : List Bool} (h : WS0 w wr g bs vr rs) (cs : Array Value) (T : Nat) :
    WSt w (wr.alloc (.cells cs T)) g bs vr rs wr.heap.size (.cells cs T (0, 0)) := by
  obtain ⟨a, b, h⟩ := h
  exact ⟨a, b, h.step (below_alloc (Below.refl _ wr) _), blk_new wr _, fun hk => Nat.lt_irrefl _ (h.bw _ hk).2, fun hk => Nat.lt_irrefl _ (h.br _ hk).2.1⟩
/-- Put. -/
theorem WSt.put {w wr : World} {g : Nat} {bs : List Bool} {vr : Value} {rs : List Bool} {h8 : Nat} {o : Obj} (h : WSt w wr g bs vr rs h8 o) (n : Nat) (width : Int) (hN : bs.length ≤ 8388608) (hn : n < 18446744073709551616)
    (hw1 : -9223372036854775808 ≤ width) (hw2 : width ≤ 9223372036854775807) :
    Calls Try.prog 13 #[.pointer (some ⟨g, 0, none⟩), .int .u64 n, .int .i64 width] wr fun e w' =>
      e = .returned (.int .i64 (putE bs.length width n)) ∧ WSt w w' g (putBits bs width n) vr rs h8 o := by
  obtain ⟨okW, okR, h, h1, h2, h3⟩ := h
  refine (put_calls wr okW g bs n width h.wr_ hN hn hw1 hw2).mono ?_
  rintro e w' ⟨rfl, hW, hM⟩
  refine ⟨rfl, (fun k => (okW k ∨ wr.heap.size ≤ k) ∧ k < w'.heap.size), okR, ⟨hW.bound, Kd.R_step h.row (fun k hk hk2 => hM.block k hk2 (h.br k hk).2.2), fun k hk => ⟨?_, hk.2⟩, fun k hk => ⟨(h.br k hk).1, Nat.lt_of_lt_of_le (h.br k hk).2.1 hM.size, fun hk2 => ?_⟩, h.below.trans (hM.below (B := w.heap.size) h.below.size (fun k hk => (h.bw k hk).1))⟩, (hM.block h8 (blk_lt h1) h2).trans h1, fun hk => ?_, h3⟩
  · rcases hk.1 with hk | hk
    · exact (h.bw k hk).1
    · exact Nat.le_trans h.below.size hk
  · rcases hk2.1 with hk2 | hk2
    · exact (h.br k hk).2.2 hk2
    · exact Nat.lt_irrefl _ (Nat.lt_of_lt_of_le (h.br k hk).2.1 hk2)
  · rcases hk.1 with hk | hk
    · exact h2 hk
    · exact Nat.lt_irrefl _ (Nat.lt_of_lt_of_le (blk_lt h1) hk)
/-- The row put behind. -/
theorem WSt.rput {w wr : World} {g : Nat} {bs : List Bool} {vr : Value} {rs : List Bool} {h8 : Nat} {o : Obj} (h : WSt w wr g bs vr rs h8 o) (n width : Nat) (hw : width ≤ 64) (hn : n < 18446744073709551616) (hl : rs.length ≤ 100000000) :
    Calls Try.prog 15 #[vr, .int .u64 n, .int .i64 width] wr fun e w' => ∃ v', e = .returned v' ∧ WSt w w' g bs v' (rs ++ nb n width) h8 o := by
  obtain ⟨okW, okR, h, h1, h2, h3⟩ := h
  refine (rput_calls wr w.heap.size okR vr rs n width h.row h.below.size hw hn hl).mono ?_
  rintro e w' ⟨v', rfl, hR, hM⟩
  have hs := hM.size
  have hR2 := Kd.R_bound hR
  refine ⟨v', rfl, okW, (fun k => (okR k ∨ wr.heap.size ≤ k) ∧ k < w'.heap.size), ⟨h.wr_.kept hM (fun k hk _ hr => (h.br k hr).2.2 hk), Kd.R_mono hR2 (fun k hk => ⟨hk.1, hk.2.2.1⟩), fun k hk => ⟨(h.bw k hk).1, Nat.lt_of_lt_of_le (h.bw k hk).2 hs⟩, fun k hk => ⟨?_, hk.2, fun hk2 => ?_⟩, h.below.trans (hM.below (B := w.heap.size) h.below.size (fun k hk => (h.br k hk).1))⟩, (hM.block h8 (blk_lt h1) h3).trans h1, h2, fun hk => ?_⟩
  · rcases hk.1 with hk | hk
    · exact (h.br k hk).1
    · exact Nat.le_trans h.below.size hk
  · rcases hk.1 with hk | hk
    · exact (h.br k hk).2.2 hk2
    · exact Nat.lt_irrefl _ (Nat.lt_of_lt_of_le (h.bw k hk2).2 hk)
  · rcases hk.1 with hk | hk
    · exact h3 hk
    · exact Nat.lt_irrefl _ (Nat.lt_of_lt_of_le (blk_lt h1) hk)
/-- A clone beside. -/
def WSc (w wr : World) (g g' : Nat) (bs : List Bool) (vr : Value) (rs : List Bool) (h8 : Nat) (o : Obj) : Prop :=
  ∃ okW okR okC, WIn w wr okW okR g bs vr rs ∧ WIn w wr okC okR g' bs vr rs ∧ (∀ k, okC k → ¬ okW k) ∧ wr.heap[h8]? = some o ∧ ¬ okW h8 ∧ ¬ okR h8 ∧ ¬ okC h8
theorem WSt.clone {w wr : World} {g : Nat} {bs : List Bool} {vr : Value} {rs : List Bool} {h8 : Nat} {o : Obj} (h : WSt w wr g bs vr rs h8 o) (hN : bs.length ≤ 8388608) :
    Calls Try.prog 12 #[.pointer (some ⟨g, 0, none⟩)] wr fun e w' => ∃ g' : Nat, e = .returned (.pointer (some ⟨g', 0, none⟩)) ∧ WSc w w' g g' bs vr rs h8 o := by
  obtain ⟨okW, okR, h, h1, h2, h3⟩ := h
  refine (wclone_calls wr okW g bs h.wr_ hN).mono ?_
  rintro e w' ⟨g', rfl, hW, hB⟩
  have hi := h.step hB
  have hs := hB.size
  refine ⟨g', rfl, okW, okR, (fun k => wr.heap.size ≤ k ∧ k < w'.heap.size), hi, ⟨hW.bound, hi.row, fun k hk => ⟨Nat.le_trans h.below.size hk.1, hk.2⟩, fun k hk => ⟨(hi.br k hk).1, (hi.br k hk).2.1, fun hk2 => Nat.lt_irrefl _ (Nat.lt_of_lt_of_le (h.br k hk).2.1 hk2.1)⟩, hi.below⟩, fun k hk hk2 => Nat.lt_irrefl _ (Nat.lt_of_lt_of_le (h.bw k hk2).2 hk.1), (hB.block h8 (blk_lt h1)).trans h1, h2, h3, fun hk => Nat.lt_irrefl _ (Nat.lt_of_lt_of_le (blk_lt h1) hk.1)⟩
theorem WSc.put {w wr : World} {g g' : Nat} {bs : List Bool} {vr : Value} {rs : List Bool} {h8 : Nat} {o : Obj} (h : WSc w wr g g' bs vr rs h8 o) (n : Nat) (width : Int) (hN : bs.length ≤ 8388608) (hn : n < 18446744073709551616)
    (hw1 : -9223372036854775808 ≤ width) (hw2 : width ≤ 9223372036854775807) :
    Calls Try.prog 13 #[.pointer (some ⟨g, 0, none⟩), .int .u64 n, .int .i64 width] wr fun e w' =>
      e = .returned (.int .i64 (putE bs.length width n)) ∧ WSt w w' g' bs vr rs h8 o := by
  obtain ⟨okW, okR, okC, h, hc, hd, h1, h2, h3, h4⟩ := h
  refine (put_calls wr okW g bs n width h.wr_ hN hn hw1 hw2).mono ?_
  rintro e w' ⟨rfl, _, hM⟩
  have hs := hM.size
  refine ⟨rfl, okC, okR, ⟨hc.wr_.kept hM (fun k hk _ hr => hd k hk hr), Kd.R_step h.row (fun k hk hk2 => hM.block k hk2 (h.br k hk).2.2), fun k hk => ⟨(hc.bw k hk).1, Nat.lt_of_lt_of_le (hc.bw k hk).2 hs⟩, fun k hk => ⟨(hc.br k hk).1, Nat.lt_of_lt_of_le (hc.br k hk).2.1 hs, (hc.br k hk).2.2⟩, h.below.trans (hM.below (B := w.heap.size) h.below.size (fun k hk => (h.bw k hk).1))⟩, (hM.block h8 (blk_lt h1) h2).trans h1, h4, h3⟩
theorem WS0.start {w w1 w2 : World} {g : Nat} (hW : Wr w1 (fun k => w.heap.size ≤ k) g []) (hB : Below w.heap.size w w1) (hB2 : Below w1.heap.size w1 w2) :
    WS0 w (w2.alloc (.cells #[] 4)) g [] (.slice (some ⟨w2.heap.size, 0, none⟩) 0 0) [] := by
  have hs := hB.size
  have hs2 := hB2.size
  have hW2 := hW.bound.kept (Mod.of_below hB2 (fun _ => False)) (fun _ _ _ h => h)
  have hW3 := hW2.kept (S := fun _ => False) (Mod.alloc (Mod.refl _ w2) (.cells #[] 4)) (fun _ _ _ h => h)
  refine ⟨_, (fun k => k = w2.heap.size), hW3, R_empty Kd.bool 4 w2 w.heap.size _ (by omega) rfl, fun k hk => ⟨hk.1, by simp; omega⟩, fun k hk => ⟨by omega, by simp; omega, fun hk2 => by omega⟩, below_alloc (hB.trans (hB2.mono hs)) _⟩
end Go.Proofs.Ytemkfkaggdpcjaa
