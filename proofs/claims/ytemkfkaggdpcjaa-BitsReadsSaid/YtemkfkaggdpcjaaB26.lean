/- BitsReads: what a round keeps. -/
import Derived.Test.YtemkfkaggdpcjaaB25
import Derived.Test.YtemkfkaggdpcjaaB14
namespace Go.Proofs.Ytemkfkaggdpcjaa
open Go.RowKit Go.Proofs.YtemkfkaggdpcjaaW.PrintWords Go.Proofs.YtemkfkaggdpcjaaW.PrintMore Go.Proofs.YtemkfkaggdpcjaaW.PrintLast Bq
set_option linter.unusedVariables false
set_option linter.unusedSimpArgs false
attribute [local go_sem ↓] Go.wp_at_zero Go.wp_at_succ

/-- A Reader, and a row of bits that is read beside it. -/
structure QSt (w wr : World) (gr : Nat) (rem : List Bool) (A : Option Addr) (row : List Bool) : Prop where
  rd : ∃ okQ, Rd wr okQ gr rem
  row_ : ∃ okR : Nat → Prop, Kd.F Kd.bool wr okR A row.length row ∧ ∀ k, okR k → k < wr.heap.size ∧ k ≠ gr
  lo : w.heap.size ≤ gr
  below : Below w.heap.size w wr
theorem QSt.step {w wr w2 : World} {gr : Nat} {rem row : List Bool} {A : Option Addr} (h : QSt w wr gr rem A row) (hb : Below wr.heap.size wr w2) : QSt w w2 gr rem A row := by
  obtain ⟨okQ, hq⟩ := h.rd
  obtain ⟨okR, hr, hne⟩ := h.row_
  exact ⟨⟨okQ, hq.kept (Mod.of_below hb (fun _ => False)) (fun _ _ _ h => h)⟩, ⟨okR, Kd.F_below hr hb, fun k hk => ⟨Nat.lt_of_lt_of_le (hne k hk).1 hb.size, (hne k hk).2⟩⟩, h.lo, h.below.trans (hb.mono h.below.size)⟩
theorem QSt.now {w wr : World} {gr : Nat} {rem row : List Bool} {A : Option Addr} (h : QSt w wr gr rem A row) : Kd.bool.C wr A row.length row := by
  obtain ⟨okR, hr, hne⟩ := h.row_
  exact Kd.F_now hr
theorem QSt.get {w wr : World} {gr : Nat} {rem row : List Bool} {A : Option Addr} (h : QSt w wr gr rem A row) (width : Int) (hw1 : -9223372036854775808 ≤ width) (hw2 : width ≤ 9223372036854775807) :
    Calls Try.prog 30 #[.pointer (some ⟨gr, 0, none⟩), .int .i64 width] wr fun e w' =>
      e = .returned (.tuple #[.int .u64 (getN rem width), .int .i64 (getE rem width)]) ∧ QSt w w' gr (getR rem width) A row := by
  obtain ⟨okQ, hq⟩ := h.rd
  obtain ⟨okR, hr, hne⟩ := h.row_
  refine (get_calls wr okQ gr rem width hq hw1 hw2).mono ?_
  rintro e w' ⟨rfl, hR, hM⟩
  exact ⟨rfl, ⟨okQ, hR⟩, ⟨okR, Kd.F_step hr (fun k hk hk2 => hM.block k hk2 (hne k hk).2), fun k hk => ⟨Nat.lt_of_lt_of_le (hne k hk).1 hM.size, (hne k hk).2⟩⟩, h.lo, h.below.trans (hM.below (B := w.heap.size) h.below.size (fun k hk => by rw [hk]; exact h.lo))⟩
theorem QSt.left {w wr : World} {gr : Nat} {rem row : List Bool} {A : Option Addr} (h : QSt w wr gr rem A row) :
    Calls Try.prog 31 #[.pointer (some ⟨gr, 0, none⟩)] wr fun e w' => e = .returned (.int .i64 rem.length) ∧ ∃ n, w' = wr.drewN n := by
  obtain ⟨okQ, hq⟩ := h.rd
  exact rleft_calls wr okQ gr rem hq
/-- A Reader and its clone. -/
def QC (w wr : World) (g gr : Nat) (rem : List Bool) (A : Option Addr) (row : List Bool) : Prop :=
  QSt w wr gr rem A row ∧ (∃ okQ, Rd wr okQ g rem) ∧ g ≠ gr ∧ w.heap.size ≤ g ∧ ∃ okR : Nat → Prop, Kd.F Kd.bool wr okR A row.length row ∧ ∀ k, okR k → k < wr.heap.size ∧ k ≠ gr ∧ k ≠ g
theorem QSt.clone {w wr : World} {gr : Nat} {rem row : List Bool} {A : Option Addr} (h : QSt w wr gr rem A row) :
    Calls Try.prog 33 #[.pointer (some ⟨gr, 0, none⟩)] wr fun e w' => ∃ g', e = .returned (.pointer (some ⟨g', 0, none⟩)) ∧ QC w w' gr g' rem A row := by
  have h0 := h
  obtain ⟨okQ, hq⟩ := h.rd
  obtain ⟨okR, hr, hne⟩ := h.row_
  refine (rclone_calls wr okQ gr rem hq).mono ?_
  rintro e w' ⟨rfl, hR, hB⟩
  obtain ⟨cs, hb⟩ := hq.blk
  have hlt := blk_lt hb
  refine ⟨_, rfl, ⟨⟨_, hR⟩, ⟨okR, Kd.F_below hr hB, fun k hk => ⟨Nat.lt_of_lt_of_le (hne k hk).1 hB.size, fun e => by have := (hne k hk).1; omega⟩⟩, h.below.size, h.below.trans (hB.mono h.below.size)⟩, (h0.step hB).rd, by omega, h.lo, okR, Kd.F_below hr hB, fun k hk => ⟨Nat.lt_of_lt_of_le (hne k hk).1 hB.size, fun e => by have := (hne k hk).1; omega, (hne k hk).2⟩⟩
theorem QC.get {w wr : World} {g gr : Nat} {rem row : List Bool} {A : Option Addr} (h : QC w wr g gr rem A row) (width : Int) (hw1 : -9223372036854775808 ≤ width) (hw2 : width ≤ 9223372036854775807) :
    Calls Try.prog 30 #[.pointer (some ⟨g, 0, none⟩), .int .i64 width] wr fun e w' =>
      e = .returned (.tuple #[.int .u64 (getN rem width), .int .i64 (getE rem width)]) ∧ QSt w w' gr rem A row := by
  obtain ⟨hQ, ⟨okG, hG⟩, hne, hlo, okR, hr, hner⟩ := h
  obtain ⟨okQ, hq⟩ := hQ.rd
  obtain ⟨cs, hb⟩ := hG.blk
  refine (get_calls wr okG g rem width hG hw1 hw2).mono ?_
  rintro e w' ⟨rfl, hR, hM⟩
  exact ⟨rfl, ⟨okQ, hq.kept_other hM (fun e => hne e.symm) hb⟩, ⟨okR, Kd.F_step hr (fun k hk hk2 => hM.block k hk2 (hner k hk).2.2), fun k hk => ⟨Nat.lt_of_lt_of_le (hner k hk).1 hM.size, (hner k hk).2.1⟩⟩, hQ.lo, hQ.below.trans (hM.below (B := w.heap.size) hQ.below.size (fun k hk => by rw [hk]; exact hlo))⟩
/-- The row cut. -/
theorem QSt.cut {w wr : World} {gr : Nat} {rem row : List Bool} {A : Option Addr} (h : QSt w wr gr rem A row) (c m : Nat) (hm : m ≤ row.length) (hc : row.length ≤ c) : QSt w wr gr rem (if c = m then A else A.map (·.add (m * 1))) (row.drop m) := by
  obtain ⟨okR, hr, hne⟩ := h.row_
  exact ⟨h.rd, ⟨okR, Kd.F_imp hr (fun W' hC => Kd.C_drop hC hm hc), hne⟩, h.lo, h.below⟩
/-- The own text, and a Reader of what it was. -/
structure QOwn (w wr : World) (gr : Nat) (bits : List Bool) (v : Value) (ys : List Int) : Prop where
  ex : ∃ (okQ okO : Nat → Prop), Rd wr okQ gr bits ∧ (Kd.int .u8).R 5 wr w.heap.size okO v ys ∧ ∀ k, okO k → ¬ okQ k
  lo : w.heap.size ≤ gr
  below : Below w.heap.size w wr
theorem QOwn.start {w w1 w2 : World} {gr : Nat} {bits : List Bool} {v : Value} {ys : List Int} (hR : (Kd.int .u8).R 5 w1 w.heap.size (fun k => w.heap.size ≤ k) v ys) (hB : Below w.heap.size w w1) (hQ : Rd w2 (fun k => w1.heap.size ≤ k) gr bits) (hB2 : Below w1.heap.size w1 w2) : QOwn w w2 gr bits v ys := by
  have hlo : w1.heap.size ≤ gr := by
    obtain ⟨_, _, _, _, h1, _⟩ := hQ
    exact h1.okg
  refine ⟨⟨_, (fun k => w.heap.size ≤ k ∧ k < w1.heap.size), hQ, Kd.R_mono (Kd.R_step (Kd.R_bound hR) (fun k hk hk2 => hB2.block k hk2)) (fun k hk => ⟨hk.1, hk.2.2.1⟩), fun k hk hk2 => by omega⟩, Nat.le_trans hB.size hlo, hB.trans (hB2.mono hB.size)⟩
theorem QOwn.put {w wr : World} {gr g cap : Nat} {bits : List Bool} {ys : List Int} (h : QOwn w wr gr bits (.slice (some ⟨g, 0, none⟩) ys.length cap) ys) (i : Nat) (x : Int) : QOwn w (wr.setCell ⟨g, i, none⟩ (.int .u8 x)) gr bits (.slice (some ⟨g, 0, none⟩) ys.length cap) (ys.set i x) := by
  obtain ⟨okQ, okO, hq, hr, hne⟩ := h.ex
  have hg : okO g := hr.1 g rfl
  obtain ⟨h1, h2⟩ := Kd.R_put hr (i : Int) x
  rw [Int.toNat_natCast] at h1 h2
  have hM : Mod (fun k => k = g) wr (wr.setCell ⟨g, i, none⟩ (.int .u8 x)) := (Mod.refl _ wr).grown h2 (fun k hk => by injection hk with hk; exact .inl hk.symm)
  have hlo : w.heap.size ≤ g := Kd.R_base hr g rfl
  exact ⟨⟨okQ, okO, hq.kept hM (fun k hk _ e => hne g hg (by rw [← e]; exact hk)), h1, hne⟩, h.lo, h.below.trans (hM.below (B := w.heap.size) h.below.size (fun k hk => by rw [hk]; exact hlo))⟩
theorem QOwn.end_ {w wr w2 : World} {gr : Nat} {bits row : List Bool} {v : Value} {ys : List Int} {A : Option Addr} {c : Nat} (h : QOwn w wr gr bits v ys) (hR : Kd.bool.R 4 w2 wr.heap.size (fun k => wr.heap.size ≤ k) (.slice A row.length c) row) (hB : Below wr.heap.size wr w2) : QSt w w2 gr bits A row := by
  obtain ⟨okQ, okO, hq, hr, hne⟩ := h.ex
  obtain ⟨cs, hb⟩ := hq.blk
  have hlt := blk_lt hb
  exact ⟨⟨okQ, hq.kept (Mod.of_below hB (fun _ => False)) (fun _ _ _ h => h)⟩, ⟨_, Kd.F_bound (Kd.R_F hR), fun k hk => ⟨hk.2, fun e => by have := hk.1; omega⟩⟩, h.lo, h.below.trans (hB.mono h.below.size)⟩
end Go.Proofs.Ytemkfkaggdpcjaa
