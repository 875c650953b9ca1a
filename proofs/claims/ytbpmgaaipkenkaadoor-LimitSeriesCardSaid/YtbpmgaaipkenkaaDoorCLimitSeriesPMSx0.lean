import Derived.Test.YtbpmgaaipkenkaaDoorCLimitSeriesPMCx0
import Derived.Test.YtbpmgaaipkenkaaDoorCLimitSeriesPMCx1
import Derived.Test.YtbpmgaaipkenkaaDoorCLimitSeriesPMCx2
import Derived.WideMake
import Derived.Laws.IdiomRangeMap
import Derived.Laws.Cover3
import Derived.Test.YtbpmgaaipkenkaaDoorCLimitSeriesG2
import Derived.Maps.RangeRun
import Derived.Test.YtbpmgaaipkenkaaDoorProg
import Derived.Below
import Derived.Deep.Draws
import Derived.Deep.AppendLies
import Derived.Maps.AppendAt
import Derived.OwnWalk
import Derived.Laws.BytesArg
import Derived.Laws.MakeOwn
import Derived.Laws.OwnMore
import Derived.Deep.OwnRows
import Derived.Tactics
import Derived.Lib.ConvBytes
import Derived.Laws.Slices
import Derived.WalkKit
import Derived.KernelRfl
import Derived.RowKit3
import Derived.Deep.LoopGhost
import Derived.Deep.QuietTactic
import Derived.BigQuiet
import Derived.WideLaws
import Derived.Deep.DeepCutAuto
import Derived.Deep.CutBlock
import Derived.Deep.RegionHeld3
import Derived.Laws.Rows
import Derived.Lib.AppendStr
import Derived.ArgAppend
import Derived.Laws.IdiomCopy
import Derived.OrdersHeld
import Derived.Laws.BitsLemmas
import Derived.RowKit
import Derived.Test.YtbpmgaaipkenkaaDoorCLimitSeriesWWords
section
namespace Go.Proofs.YtbpmgaaipkenkaaDoor
open Go Go.RowKit Go.Proofs.YtbpmgaaipkenkaaDoorW.PrintWords Go.Proofs.YtbpmgaaipkenkaaDoorW.PrintLast Go.Proofs.YtbpmgaaipkenkaaDoorW.PrintMore
set_option linter.unusedVariables false
set_option linter.unusedSimpArgs false
attribute [local go_sem ↓] Go.wp_at_zero Go.wp_at_succ
theorem lower_m {B B' : Nat} {w w' : World} (h : Below B w w') (hle : B' ≤ B) : Below B' w w' := ⟨h.os, h.tape, h.output, h.size, fun k hk => h.block k (by omega)⟩
def made (w : World) : World := (w.alloc (.map #[] 0)).alloc (.cells #[.map (some w.heap.size)] 72)
theorem new_calls (w : World) : Calls Tryd.prog 27 #[] w fun e w' => e = .returned (.pointer (some ⟨w.heap.size + 1, 0, none⟩)) ∧ w' = made w := by
  have hm := run_makeMap (P := Tryd.prog) 70
  go_enter Tryd.func27, Tryd.ntmps27
  go_wp2
  go_ret
  refine ⟨?_, rfl⟩
  simp
set_option maxRecDepth 20000 in
theorem ok_calls (w : World) (g b : Nat) (hg : w.heap[g]? = some (.cells #[.map (some b)] 72 (0, 0))) :
    Calls Tryd.prog 39 #[.pointer (some ⟨g, 0, none⟩)] w fun e w' => e = .returned (.bool true) ∧ Drawn0 w w' := by
  have hc : w.cell? ⟨g, 0, none⟩ = some (.map (some b)) := (blk_cell hg 0).trans rfl
  have hn : ∀ W : World, (binOp .neq 70 (.map (some b)) (.map none)).run Tryd.prog W = .ok (.bool true) W := fun W => run_neq_map_nil W _ _ _ (some b) Tryd.underlying70
  go_enter Tryd.func39, Tryd.ntmps39
  go_wp2
  go_ret
  exact ⟨rfl, by repeat (first | exact Drawn0.refl _ | apply Drawn0.step)⟩
section
variable (W : World)
abbrev mty : TypeId := 70
theorem zero_labels : (zeroValue 61).run Tryd.prog W = .ok (.slice none 0 0) W := by
  obtain ⟨i, hi, hz⟩ := Option.map_eq_some_iff.1 (show (Tryd.prog.info? 61).map (·.zero) = some (some (.slice none 0 0)) by kernel_rfl)
  simp [zeroValue, typeInfo, hi, hz]
theorem key_ok' (s : ByteArray) : (Instr.checkKey true 10000 9 (.string s)).run Tryd.prog W = .ok () W := MapKept.run_checkKey (k := .string s) Tryd.underlying9 (by simp [MapKept.IsKey]) true 9999
theorem lookup_empty (b clock : Nat) (s : ByteArray) (hb : W.heap[b]? = some (.map #[] clock)) :
    (Instr.lookup mty (.map (some b)) (.string s) false).run Tryd.prog W = .ok (.slice none 0 0) W := by
  have hf : Instr.findNow .string (.string s) ([] : List MapEntry) 0 = some none := rfl
  simp [Instr.lookup, run_underlying Tryd.underlying70, MapKept.run_getObj_map hb, key_ok' W s, MapKept.run_findKey Tryd.underlying9 hf, zero_labels W, Result.andThen]
theorem len_map (b clock : Nat) (es : Array MapEntry) (ty : TypeId) (hb : W.heap[b]? = some (.map es clock)) :
    (Builtin.len_ #[mty] ty #[.map (some b)]).run Tryd.prog W = .ok (.int .i64 (es.size : Int)) W := by
  simp [Builtin.len_, run_underlying Tryd.underlying70, MapKept.run_getObj_map hb, goInt, Result.andThen]
def setO (r : Nat) (o : Obj) : World := { W with heap := W.heap.setIfInBounds r o }
theorem setO_at (r : Nat) (o o' : Obj) (h : W.heap[r]? = some o') : (setO W r o).heap[r]? = some o := by
  have hlt : r < W.heap.size := by
    rcases Nat.lt_or_ge r W.heap.size with h2 | h2
    · exact h2
    · rw [Array.getElem?_eq_none h2] at h; cases h
  simp [setO, Array.getElem?_setIfInBounds, hlt]
theorem setO_far (r k : Nat) (o : Obj) (h : k ≠ r) : (setO W r o).heap[k]? = W.heap[k]? := by
  simp [setO, Array.getElem?_setIfInBounds, Ne.symm h]
theorem setO_size (r : Nat) (o : Obj) : (setO W r o).heap.size = W.heap.size := by simp [setO]
theorem update_first (b clock : Nat) (s : ByteArray) (v : Value) (hb : W.heap[b]? = some (.map #[] clock)) :
    (Instr.mapUpdate mty (.map (some b)) (.string s) v).run Tryd.prog W = .ok () (setO W b (.map #[{ key := .string s, val := v, born := clock }] (clock + 1))) :=
  run_mapUpdate_first (w := W) mty _ _ b clock s v Tryd.underlying70 Tryd.underlying9 hb
theorem range_it (b clock : Nat) (es : Array MapEntry) (hb : W.heap[b]? = some (.map es clock)) :
    (Instr.range mty (.map (some b))).run Tryd.prog W = .ok (.pointer (some ⟨W.heap.size, 0, none⟩)) (W.alloc (.mapIter (some b) clock #[] clock)) :=
  run_range_map W mty _ _ b es clock Tryd.underlying70 hb
theorem get_it (r : Nat) (m : Option Nat) (s c : Nat) (seen : Array Nat) (h : W.heap[r]? = some (.mapIter m s seen c)) : (getObj r).run Tryd.prog W = .ok (.mapIter m s seen c) W := by simp [getObj, Sem.run, h]
theorem set_it (r : Nat) (m : Option Nat) (s c : Nat) (seen : Array Nat) (o : Obj) (h : W.heap[r]? = some (.mapIter m s seen c)) : (setObj r o).run Tryd.prog W = .ok () (setO W r o) := by simp [setObj, Sem.run, h, setO]
theorem next_one (it b : Nat) (k v : Value) (ty : TypeId) (hi : W.heap[it]? = some (.mapIter (some b) 1 #[] 1)) (hb : W.heap[b]? = some (.map #[{ key := k, val := v, born := 0 }] 1)) :
    (Instr.next (.pointer (some ⟨it, 0, none⟩)) false ty).run Tryd.prog W = .ok (.tuple #[.bool true, k, v]) (setO W it (.mapIter (some b) 1 #[0] 1)) := by
  simp [Instr.next, get_it W it _ _ _ _ hi, MapKept.run_getObj_map hb, set_it W it _ _ _ _ _ hi, Result.andThen, Question.forced]
theorem next_end (it b : Nat) (k v : Value) (ty : TypeId) (hi : W.heap[it]? = some (.mapIter (some b) 1 #[0] 1)) (hb : W.heap[b]? = some (.map #[{ key := k, val := v, born := 0 }] 1)) :
    (Instr.next (.pointer (some ⟨it, 0, none⟩)) false ty).run Tryd.prog W = .ok (.tuple #[.bool false]) W := by
  simp [Instr.next, get_it W it _ _ _ _ hi, MapKept.run_getObj_map hb, Result.andThen, Question.forced]
theorem entry_one (it b : Nat) (k v : Value) (hi : W.heap[it]? = some (.mapIter (some b) 1 #[0] 1)) (hb : W.heap[b]? = some (.map #[{ key := k, val := v, born := 0 }] 1)) :
    (Instr.entry (.pointer (some ⟨it, 0, none⟩))).run Tryd.prog W = .ok (.tuple #[k, v]) W := by
  simp [Instr.entry, get_it W it _ _ _ _ hi, MapKept.run_getObj_map hb, Result.andThen]
end
end Go.Proofs.YtbpmgaaipkenkaaDoor
end
section
namespace Go.Proofs.YtbpmgaaipkenkaaDoor
open Go Go.RowKit Go.Proofs.YtbpmgaaipkenkaaDoorW.PrintWords Go.Proofs.YtbpmgaaipkenkaaDoorW.PrintLast Go.Proofs.YtbpmgaaipkenkaaDoorW.PrintMore
set_option linter.unusedVariables false
set_option linter.unusedSimpArgs false
attribute [local go_sem ↓] Go.wp_at_zero Go.wp_at_succ
abbrev sa : ByteArray := ⟨#[97]⟩
abbrev sx : ByteArray := ⟨#[120]⟩
abbrev lab1 : PMC.S66 := ⟨sa, sx⟩
abbrev nm : ByteArray := ⟨#[123, 97, 61, 34, 120, 34, 125]⟩
theorem right1 : PMC.labels_Right.f 9 [lab1] = some 0 := by kernel_rfl
theorem print1 : PMC.labels_Print.f 9 [lab1] = some nm := by kernel_rfl
theorem own1 : PMC.limit_own.f [lab1] = some [lab1] := by kernel_rfl
theorem lab_C (W : World) (x : Nat) (hx : W.heap[x]? = some (.cells #[.string sa, .string sx] 66 (0, 0))) : PMC.k66.C W (some ⟨x, 0, none⟩) 1 [lab1] := by
  refine ⟨rfl, by decide, fun _ => ⟨_, rfl, fun j p hj => ?_⟩⟩
  rcases j with _ | j
  · simp only [List.getElem?_cons_zero, Option.some.injEq] at hj
    subst hj
    refine ⟨[.string sa, .string sx], rfl, ?_, fun i u hu => ?_⟩
    · exact PMC.k66_mk W lab1
    · have e : (⟨x, 0, none⟩ : Addr).add (0 * PMC.k66.sz + i) = ⟨x, i, none⟩ := by
        rw [Nat.zero_mul, Addr.add_mid]; simp
      rw [e]
      refine (blk_cell hx i).trans ?_
      simpa using hu
  · simp at hj
theorem right_c (W : World) (x : Nat) (hT : Tab W) (hC : PMC.k66.C W (some ⟨x, 0, none⟩) 1 [lab1]) : Calls Tryd.prog 40 #[.slice (some ⟨x, 0, none⟩) 1 1] W fun e w' => e = .returned (.int .i64 0) ∧ Below W.heap.size W w' :=
  PMC.labels_Right.calls 9 (some ⟨x, 0, none⟩) 1 [lab1] 0 W ⟨hT⟩ hC (by decide) right1
theorem print_c (W : World) (x : Nat) (hC : PMC.k66.C W (some ⟨x, 0, none⟩) 1 [lab1]) : Calls Tryd.prog 41 #[.slice (some ⟨x, 0, none⟩) 1 1] W fun e w' => e = .returned (.string nm) ∧ Below W.heap.size W w' :=
  PMC.labels_Print.calls 9 (some ⟨x, 0, none⟩) 1 [lab1] nm W hC (by decide) print1
theorem own_c (W : World) (x : Nat) (hC : PMC.k66.C W (some ⟨x, 0, none⟩) 1 [lab1]) : Calls Tryd.prog 42 #[.slice (some ⟨x, 0, none⟩) 1 1] W fun e w' => ∃ (A : Option Addr) (c : Nat), e = .returned (.slice A 1 c) ∧ Below W.heap.size W w' := by
  refine (PMC.limit_own.calls (some ⟨x, 0, none⟩) 1 [lab1] [lab1] W hC (by decide) own1).mono ?_
  rintro e w' ⟨v, rfl, hR, hB⟩
  obtain ⟨A, c, rfl⟩ := Kd.R_slice hR
  exact ⟨A, c, rfl, hB⟩
theorem below_dr {w w' : World} (h : Drawn0 w w') : Below w.heap.size w w' := by
  obtain ⟨n, rfl⟩ := h
  exact pw_below_drewN (Below.refl _ _) n
theorem map_below {w w1 : World} {r c : Nat} {es : Array MapEntry} (h : w.heap[r]? = some (.map es c)) (hb : Below w.heap.size w w1) : w1.heap[r]? = some (.map es c) :=
  (hb.block r (by
    rcases Nat.lt_or_ge r w.heap.size with h2 | h2
    · exact h2
    · rw [Array.getElem?_eq_none h2] at h; cases h)).trans h
theorem below_setO {B : Nat} {w w1 : World} {r : Nat} {o : Obj} (h : Below B w w1) (hr : B ≤ r) : Below B w (setO w1 r o) :=
  ⟨h.os, h.tape, h.output, by rw [setO_size]; exact h.size, fun k hk => (setO_far w1 r k o (by omega)).trans (h.block k hk)⟩
theorem mod_setO {S : Nat → Prop} {w w1 : World} {r : Nat} {o : Obj} (h : Mod S w w1) (hr : S r ∨ w.heap.size ≤ r) : Mod S w (setO w1 r o) :=
  ⟨h.os, h.tape, h.output, by rw [setO_size]; exact h.size, fun k hk hn => (setO_far w1 r k o (by
    rintro rfl
    rcases hr with hr | hr
    · exact hn hr
    · omega)).trans (h.block k hk hn)⟩
structure L3 (w wr : World) (g b fb it : Nat) (s : ByteArray) (v : Value) (i : Nat) : Prop where
  qi : wr.heap[it]? = some (.mapIter (some fb) 1 (if i = 0 then #[] else #[0]) 1)
  qf : wr.heap[fb]? = some (.map #[{ key := .string s, val := v, born := 0 }] 1)
  qb : i = 0 → wr.heap[b]? = some (.map #[] 0)
  qg : wr.heap[g]? = some (.cells #[.map (some b)] 72 (0, 0))
  qm : Mod (fun k => k = b) w wr
  qw : w.heap.size ≤ it
set_option maxRecDepth 20000 in
set_option maxHeartbeats 4000000 in
theorem admit_calls (w : World) (hT : Tab w) (g b x y : Nat) (hg : w.heap[g]? = some (.cells #[.map (some b)] 72 (0, 0))) (hb : w.heap[b]? = some (.map #[] 0)) (hx : w.heap[x]? = some (.cells #[.string sa, .string sx] 66 (0, 0))) (hy : w.heap[y]? = some (.cells #[.slice (some ⟨x, 0, none⟩) 1 1] 61 (0, 0))) :
    Calls Tryd.prog 30 #[.pointer (some ⟨g, 0, none⟩), .slice (some ⟨y, 0, none⟩) 1 1, .int .i64 1] w fun e w' => e = .returned (.tuple #[.int .i64 1, .int .i64 0]) ∧ Mod (fun k => k = b) w w' := by
  have HT := Lib.hid (fun (W : World) (hW : Below w.heap.size w W) => Tab_below hT hW)
  have HG := Lib.hid (fun (W : World) (hW : Below w.heap.size w W) => (hW.block g (blk_lt hg)).trans hg)
  have HB := Lib.hid (fun (W : World) (hW : Below w.heap.size w W) => (hW.block b (by
    rcases Nat.lt_or_ge b w.heap.size with h2 | h2
    · exact h2
    · rw [Array.getElem?_eq_none h2] at hb; cases hb)).trans hb)
  have HX := Lib.hid (fun (W : World) (hW : Below w.heap.size w W) => lab_C W x ((hW.block x (blk_lt hx)).trans hx))
  have HY := Lib.hid (fun (W : World) (hW : Below w.heap.size w W) => ((blk_cell ((hW.block y (blk_lt hy)).trans hy) 0).trans rfl : W.cell? ⟨y, 0, none⟩ = some (.slice (some ⟨x, 0, none⟩) 1 1)))
  clear hT hg hb hx hy
  go_enter Tryd.func30, Tryd.ntmps30
  go_wp2_with (go_at_call 39; (with_reducible refine (ok_calls w g b (HG.out w (Below.refl _ w))).mono ?_); rintro e w1 ⟨rfl, hD⟩; have HB1 := Lib.hid (below_dr hD); clear hD)
  go_loopg [22] 1 (fun kq s22 wr => ∃ i : Nat, i + kq = 1 ∧ s22 = .int .i64 (i : Int) ∧ Hid (Below w.heap.size w wr))
  case atStart => exact ⟨0, rfl, rfl, HB1.out⟩
  case round =>
    obtain ⟨i, hi, rfl, hBr⟩ := hrel
    rcases (by omega : i = 0 ∨ i = 1) with rfl | rfl
    · have hcy := HY.out wr hBr.out
      go_wp2_with (go_at_call 40; (with_reducible refine (right_c wr x (HT.out wr hBr.out) (HX.out wr hBr.out)).mono ?_); rintro e w3 ⟨rfl, hB3⟩; have HB3 := Lib.hid (hBr.out.trans (lower_m hB3 hBr.out.size)); clear hB3)
      go_roundg (gk - 1)
      case measure => omega
      case rel => exact ⟨1, by omega, rfl, HB3.out⟩
    · have hmk := run_makeMap (P := Tryd.prog) 70
      go_wp2
      obtain ⟨W0, hW0⟩ : ∃ W0, W0 = wr.alloc (.map #[] 0) := ⟨_, rfl⟩
      obtain ⟨fb, hfb⟩ : ∃ fb, fb = wr.heap.size := ⟨_, rfl⟩
      have HB0 : Hid (Below w.heap.size w W0) := Lib.hid (by rw [hW0]; exact below_alloc hBr.out _)
      have HF0 : Hid (W0.heap[fb]? = some (.map #[] 0)) := Lib.hid (by rw [hW0, hfb]; exact heap_alloc_new wr _)
      have HFW : Hid (w.heap.size ≤ fb) := Lib.hid (by rw [hfb]; exact hBr.out.size)
      rw [← hW0, ← hfb]
      clear hW0 hfb hmk
      clear hBr
      go_loopg [35] 1 (fun kq s35 wr => ∃ i : Nat, i + kq = 1 ∧ s35 = .int .i64 (i : Int) ∧ Hid (Below w.heap.size w wr) ∧ Hid ((i = 0 ∧ wr.heap[fb]? = some (.map #[] 0)) ∨ (i = 1 ∧ ∃ v, wr.heap[fb]? = some (.map #[{ key := .string nm, val := v, born := 0 }] 1))))
      case atStart => exact ⟨0, rfl, rfl, HB0.out, .inl ⟨rfl, HF0.out⟩⟩
      case round =>
        obtain ⟨i, hi, rfl, hBz, hF⟩ := hrel
        rcases (by omega : i = 0 ∨ i = 1) with rfl | rfl
        · have hcy := HY.out wr hBz.out
          have hf : wr.heap[fb]? = some (.map #[] 0) := by
            rcases hF.out with ⟨_, h⟩ | ⟨h, _⟩
            · exact h
            · exact absurd h (by decide)
          have HFZ := Lib.hid hf
          clear hf hF
          have heq : ∀ W : World, (binOp .eql 61 (.slice none 0 0) (.slice none 0 0)).run Tryd.prog W = .ok (.bool true) W := fun W => by
            simp only [binOp]
            simp [run_equal_slice_nil W 61 _ none 0 0 Tryd.underlying61]
          go_wp2_with (first
            | (go_at_call 41; (with_reducible refine (print_c wr x (HX.out wr hBz.out)).mono ?_); rintro e w4 ⟨rfl, hB4⟩; have HF4 := Lib.hid (map_below HFZ.out hB4); have HB4 := Lib.hid (hBz.out.trans (lower_m hB4 hBz.out.size)); clear hB4; have hlk := lookup_empty w4 b 0 nm (HB.out w4 HB4.out); have hgc : w4.cell? ⟨g, 0, none⟩ = some (.map (some b)) := (blk_cell (HG.out w4 HB4.out) 0).trans rfl)
            | (go_at_call 42; (with_reducible refine (own_c w4 x (HX.out w4 HB4.out)).mono ?_); rintro e w5 ⟨A5, c5, rfl, hB5⟩; have hf5 := map_below HF4.out hB5; have HB5 := Lib.hid (HB4.out.trans (lower_m hB5 HB4.out.size)); clear hB5; have hmu := update_first w5 fb 0 nm (.slice A5 1 c5) hf5; obtain ⟨W6, hW6⟩ : ∃ W6, W6 = setO w5 fb (.map #[{ key := .string nm, val := .slice A5 1 c5, born := 0 }] (0 + 1)) := ⟨_, rfl⟩; rw [← hW6] at hmu; have HF6 : Hid (W6.heap[fb]? = some (.map #[{ key := .string nm, val := .slice A5 1 c5, born := 0 }] 1)) := Lib.hid (by rw [hW6]; exact setO_at w5 fb _ _ hf5); have HB6 : Hid (Below w.heap.size w W6) := Lib.hid (by rw [hW6]; exact below_setO HB5.out HFW.out); clear hW6 hf5))
          go_roundg (gk - 1)
          case measure => omega
          case rel => exact ⟨1, by omega, rfl, HB6.out, .inr ⟨rfl, _, HF6.out⟩⟩
        · obtain ⟨v, hv⟩ : ∃ v, wr.heap[fb]? = some (.map #[{ key := .string nm, val := v, born := 0 }] 1) := by
            rcases hF.out with ⟨h, _⟩ | ⟨_, h⟩
            · exact absurd h (by decide)
            · exact h
          have HV := Lib.hid hv
          have hl1 := len_map wr fb 1 #[{ key := .string nm, val := v, born := 0 }] 3 hv
          have hl0 := len_map wr b 0 #[] 3 (HB.out wr hBz.out)
          have hgc : wr.cell? ⟨g, 0, none⟩ = some (.map (some b)) := (blk_cell (HG.out wr hBz.out) 0).trans rfl
          have hl1n := fun n : Nat => len_map (wr.drewN n) fb 1 #[{ key := .string nm, val := v, born := 0 }] 3 hv
          have hl0n := fun n : Nat => len_map (wr.drewN n) b 0 #[] 3 (HB.out wr hBz.out)
          clear hv hF
          go_wp2
          go_quiet (fail)
          have HBq := Lib.hid (pw_below_drewN hBz.out nq)
          have HVq : Hid ((wr.drewN nq).heap[fb]? = some (.map #[{ key := .string nm, val := v, born := 0 }] 1)) := HV
          generalize wr.drewN nq = W7 at HBq HVq
          clear hl1 hl0 hl1n hl0n hgc HV
          have hrg := range_it W7 fb 1 #[{ key := .string nm, val := v, born := 0 }] HVq.out
          obtain ⟨it, hit⟩ : ∃ it, it = W7.heap.size := ⟨_, rfl⟩
          obtain ⟨W8, hW8⟩ : ∃ W8, W8 = W7.alloc (.mapIter (some fb) 1 #[] 1) := ⟨_, rfl⟩
          have hff : fb < W7.heap.size := by
            rcases Nat.lt_or_ge fb W7.heap.size with h2 | h2
            · exact h2
            · have := HVq.out; rw [Array.getElem?_eq_none h2] at this; cases this
          have hbb : b < w.heap.size := by
            rcases Nat.lt_or_ge b w.heap.size with h2 | h2
            · exact h2
            · have := HB.out w (Below.refl _ _); rw [Array.getElem?_eq_none h2] at this; cases this
          have HNE := Lib.hid (And.intro (show fb ≠ it by omega) (And.intro (show b ≠ it by have := HBq.out.size; omega) (And.intro (show b ≠ fb by have := HFW.out; omega) (show g ≠ it ∧ g ≠ b by
            have h1 := HG.out w (Below.refl _ _)
            have h2 := blk_lt h1
            refine ⟨by have := HBq.out.size; omega, fun e => ?_⟩
            have h3 := HB.out w (Below.refl _ _)
            rw [e, h3] at h1
            cases h1))))
          have HL : Hid (L3 w W8 g b fb it nm v 0) := Lib.hid (by
            rw [hW8]
            have hbn := below_alloc HBq.out (.mapIter (some fb) 1 #[] 1)
            exact ⟨by rw [hit]; exact heap_alloc_new W7 _, (heap_alloc_old W7 _ hff).trans HVq.out, fun _ => HB.out _ hbn, HG.out _ hbn, Mod.of_below hbn _, by rw [hit]; exact HBq.out.size⟩)
          rw [← hW8, ← hit] at hrg
          clear hW8 hit hff hbb
          go_wp2
          go_loopg [] 1 (fun kq wr => ∃ i : Nat, i + kq = 1 ∧ Hid (L3 w wr g b fb it nm v i))
          case atStart => exact ⟨0, rfl, HL.out⟩
          case round =>
            obtain ⟨i, hi, hL⟩ := hrel
            rcases (by omega : i = 0 ∨ i = 1) with rfl | rfl
            · have hnx := fun ty => next_one wr it fb (.string nm) v ty hL.out.qi hL.out.qf
              obtain ⟨W9, hW9⟩ : ∃ W9, W9 = setO wr it (.mapIter (some fb) 1 #[0] 1) := ⟨_, rfl⟩
              have h9i : W9.heap[it]? = some (.mapIter (some fb) 1 #[0] 1) := by rw [hW9]; exact setO_at wr it _ _ hL.out.qi
              have h9f : W9.heap[fb]? = some (.map #[{ key := .string nm, val := v, born := 0 }] 1) := by rw [hW9, setO_far _ _ _ _ HNE.out.1]; exact hL.out.qf
              have h9b : W9.heap[b]? = some (.map #[] 0) := by rw [hW9, setO_far _ _ _ _ HNE.out.2.1]; exact hL.out.qb rfl
              have h9g : W9.heap[g]? = some (.cells #[.map (some b)] 72 (0, 0)) := by rw [hW9, setO_far _ _ _ _ HNE.out.2.2.2.1]; exact hL.out.qg
              have h9m : Mod (fun k => k = b) w W9 := by rw [hW9]; exact mod_setO hL.out.qm (.inr hL.out.qw)
              have hen := entry_one W9 it fb (.string nm) v h9i h9f
              have hgc : W9.cell? ⟨g, 0, none⟩ = some (.map (some b)) := (blk_cell h9g 0).trans rfl
              have hmu := update_first W9 b 0 nm v h9b
              obtain ⟨W10, hW10⟩ : ∃ W10, W10 = setO W9 b (.map #[{ key := .string nm, val := v, born := 0 }] (0 + 1)) := ⟨_, rfl⟩
              have HL2 : Hid (L3 w W10 g b fb it nm v 1) := Lib.hid (by
                rw [hW10]
                exact ⟨by rw [setO_far _ _ _ _ (Ne.symm HNE.out.2.1)]; exact h9i, by rw [setO_far _ _ _ _ (Ne.symm HNE.out.2.2.1)]; exact h9f, fun h => absurd h (by decide), by rw [setO_far _ _ _ _ HNE.out.2.2.2.2]; exact h9g, mod_setO h9m (.inl rfl), hL.out.qw⟩)
              rw [← hW9] at hnx
              rw [← hW10] at hmu
              clear hW9 hW10 h9i h9f h9b h9g h9m
              go_wp2
              go_roundg (gk - 1)
              case measure => omega
              case rel => exact ⟨1, by omega, HL2.out⟩
            · have hnx := fun ty => next_end wr it fb (.string nm) v ty hL.out.qi hL.out.qf
              have hl1 := len_map wr fb 1 #[{ key := .string nm, val := v, born := 0 }] 3 hL.out.qf
              go_wp2
              go_ret2
              exact ⟨rfl, hL.out.qm⟩
end Go.Proofs.YtbpmgaaipkenkaaDoor
end
section
namespace Go.Proofs.YtbpmgaaipkenkaaDoor
open Go Go.RowKit Go.Proofs.YtbpmgaaipkenkaaDoorW.PrintWords Go.Proofs.YtbpmgaaipkenkaaDoorW.PrintLast Go.Proofs.YtbpmgaaipkenkaaDoorW.PrintMore
set_option linter.unusedVariables false
set_option linter.unusedSimpArgs false
abbrev PV := ByteArray × Value
def encE (e : MapEntry) : Value × Value := (e.key, e.val)
def encP (p : PV) : Value × Value := (.string p.1, p.2)
def SM (w : World) (b : Nat) (l : List PV) : Prop :=
  ∃ es clock, w.heap[b]? = some (.map es clock) ∧ (∀ x ∈ es.toList, x.born < clock) ∧ (es.toList.map (·.born)).Nodup ∧ es.toList.map encE = l.map encP
theorem SM.empty {w : World} {b c : Nat} (h : w.heap[b]? = some (.map #[] c)) : SM w b [] := ⟨_, _, h, by simp, by simp, rfl⟩
theorem SM.of_eq {w w' : World} {b : Nat} {l : List PV} (h : SM w b l) (e : w'.heap[b]? = w.heap[b]?) : SM w' b l := by
  obtain ⟨es, c, h1, h2⟩ := h
  exact ⟨es, c, e.trans h1, h2⟩
theorem SM.lt {w : World} {b : Nat} {l : List PV} (h : SM w b l) : b < w.heap.size := by
  obtain ⟨es, c, h1, h2⟩ := h
  rcases Nat.lt_or_ge b w.heap.size with h3 | h3
  · exact h3
  · rw [Array.getElem?_eq_none h3] at h1; cases h1
theorem SM.below {w w' : World} {b : Nat} {l : List PV} (h : SM w b l) (hb : Below w.heap.size w w') : SM w' b l := h.of_eq (hb.block b h.lt)
def idx (k : ByteArray) : List PV → Nat → Option (Nat × Value)
  | [], _ => none
  | p :: l, i => if p.1 = k then some (i, p.2) else idx k l (i + 1)
theorem find_sm (k : ByteArray) : ∀ (es : List MapEntry) (l : List PV) (i : Nat), es.map encE = l.map encP → Instr.findNow .string (.string k) es i = some (idx k l i)
  | [], [], i, h => rfl
  | [], p :: l, i, h => by simp at h
  | e :: es, [], i, h => by simp at h
  | e :: es, p :: l, i, h => by
    rw [List.map_cons, List.map_cons] at h
    obtain ⟨h1, h2⟩ := List.cons.inj h
    have hk : e.key = .string p.1 := congrArg Prod.fst h1
    have hv : e.val = p.2 := congrArg Prod.snd h1
    have ih := find_sm k es l (i + 1) h2
    by_cases c : p.1 = k
    · have hs : Instr.sameNow .string (.string k) e.key = some true := by
        rw [hk]
        show some (k == p.1) = some true
        rw [(MapKept.bytes_beq k p.1).2 c.symm]
      simp only [Instr.findNow, hs, idx, if_pos c, hv]
    · have hs : Instr.sameNow .string (.string k) e.key = some false := by
        rw [hk]
        show some (k == p.1) = some false
        rw [Bool.eq_false_iff.2 (fun h => c ((MapKept.bytes_beq k p.1).1 h).symm)]
      simp only [Instr.findNow, hs, idx, if_neg c, ih]
theorem idx_none (k : ByteArray) : ∀ (l : List PV) (i : Nat), idx k l i = none ↔ k ∉ l.map (·.1)
  | [], i => by simp [idx]
  | p :: l, i => by
    by_cases c : p.1 = k
    · simp [idx, c]
    · have := idx_none k l (i + 1)
      simp only [idx, if_neg c, this, List.map_cons, List.mem_cons, not_or]
      exact ⟨fun h => ⟨fun h2 => c h2.symm, h⟩, fun h => h.2⟩
theorem idx_some (k : ByteArray) : ∀ (l : List PV) (i j : Nat) (v : Value), idx k l i = some (j, v) → ∃ d, j = i + d ∧ l[d]? = some (k, v)
  | [], i, j, v, h => by simp [idx] at h
  | p :: l, i, j, v, h => by
    by_cases c : p.1 = k
    · simp only [idx, if_pos c, Option.some.injEq, Prod.mk.injEq] at h
      refine ⟨0, h.1.symm, ?_⟩
      rw [List.getElem?_cons_zero, ← c, ← h.2]
    · simp only [idx, if_neg c] at h
      obtain ⟨d, h1, h2⟩ := idx_some k l (i + 1) j v h
      exact ⟨d + 1, by omega, by rw [List.getElem?_cons_succ]; exact h2⟩
def getP (k : ByteArray) (l : List PV) : Value := match idx k l 0 with | some (_, v) => v | none => .slice none 0 0
def putP (k : ByteArray) (v : Value) (l : List PV) : List PV := match idx k l 0 with | some (j, _) => l.set j (k, v) | none => l ++ [(k, v)]
theorem putP_new {k : ByteArray} {v : Value} {l : List PV} (h : k ∉ l.map (·.1)) : putP k v l = l ++ [(k, v)] := by unfold putP; rw [(idx_none k l 0).2 h]
theorem putP_keys {k : ByteArray} {v : Value} {l : List PV} (h : k ∈ l.map (·.1)) : (putP k v l).map (·.1) = l.map (·.1) := by
  rcases hi : idx k l 0 with _ | ⟨j, u⟩
  · exact absurd h ((idx_none k l 0).1 hi)
  · obtain ⟨d, h1, h2⟩ := idx_some k l 0 j u hi
    have : j = d := by omega
    subst this
    unfold putP
    rw [hi]
    simp only
    rw [List.map_set]
    apply List.ext_getElem?
    intro i
    rw [List.getElem?_set]
    split
    · rename_i e
      subst e
      obtain ⟨hl, he⟩ := List.getElem?_eq_some_iff.1 h2
      rw [if_pos (by rw [List.length_map]; exact hl), List.getElem?_map, h2]
      rfl
    · rfl
theorem putP_mem {k : ByteArray} {v : Value} {l : List PV} {p : PV} (h : p ∈ putP k v l) : p = (k, v) ∨ p ∈ l := by
  unfold putP at h
  split at h
  · exact (List.mem_or_eq_of_mem_set h).symm
  · rcases List.mem_append.1 h with h | h
    · exact .inr h
    · exact .inl (List.mem_singleton.1 h)
theorem getP_mem {k : ByteArray} {l : List PV} (h : k ∈ l.map (·.1)) : (k, getP k l) ∈ l := by
  rcases hi : idx k l 0 with _ | ⟨j, u⟩
  · exact absurd h ((idx_none k l 0).1 hi)
  · obtain ⟨d, h1, h2⟩ := idx_some k l 0 j u hi
    unfold getP
    rw [hi]
    exact List.mem_of_getElem? h2
theorem getP_none {k : ByteArray} {l : List PV} (h : k ∉ l.map (·.1)) : getP k l = .slice none 0 0 := by unfold getP; rw [(idx_none k l 0).2 h]
section
variable (W : World)
abbrev mpt := 70
theorem lookup_sm (b : Nat) (l : List PV) (k : ByteArray) (h : SM W b l) : (Instr.lookup mpt (.map (some b)) (.string k) false).run Tryd.prog W = .ok (getP k l) W := by
  obtain ⟨es, c, h1, h2, h3, h4⟩ := h
  have hf := find_sm k es.toList l 0 h4
  have hc : ∀ e : Bool, (Instr.checkKey e 10000 9 (.string k)).run Tryd.prog W = .ok () W := fun e => MapKept.run_checkKey (k := .string k) Tryd.underlying9 (by simp [MapKept.IsKey]) e 9999
  unfold getP
  rcases hi : idx k l 0 with _ | ⟨j, v⟩
  · rw [hi] at hf
    simp [Instr.lookup, run_underlying Tryd.underlying70, MapKept.run_getObj_map h1, hc, MapKept.run_findKey Tryd.underlying9 hf, zero_labels W, Result.andThen]
  · rw [hi] at hf
    simp [Instr.lookup, run_underlying Tryd.underlying70, MapKept.run_getObj_map h1, hc, MapKept.run_findKey Tryd.underlying9 hf, Result.andThen]
theorem len_sm (b : Nat) (l : List PV) (ty : TypeId) (h : SM W b l) : (Builtin.len_ #[mpt] ty #[.map (some b)]).run Tryd.prog W = .ok (.int .i64 (l.length : Int)) W := by
  obtain ⟨es, c, h1, h2, h3, h4⟩ := h
  have e : es.size = l.length := by
    have := congrArg List.length h4
    rwa [List.length_map, List.length_map, Array.length_toList] at this
  rw [len_map W b c es ty h1, e]
theorem update_sm (b : Nat) (l : List PV) (k : ByteArray) (v : Value) (h : SM W b l) :
    ∃ es c, (Instr.mapUpdate mpt (.map (some b)) (.string k) v).run Tryd.prog W = .ok () (setO W b (.map es c)) ∧ SM (setO W b (.map es c)) b (putP k v l) := by
  obtain ⟨es, c, h1, h2, h3, h4⟩ := h
  have hf := find_sm k es.toList l 0 h4
  have hc : ∀ e : Bool, (Instr.checkKey e 10000 9 (.string k)).run Tryd.prog W = .ok () W := fun e => MapKept.run_checkKey (k := .string k) Tryd.underlying9 (by simp [MapKept.IsKey]) e 9999
  rcases hi : idx k l 0 with _ | ⟨j, u⟩
  · rw [hi] at hf
    refine ⟨es.push { key := .string k, val := v, born := c }, c + 1, ?_, ?_⟩
    · simp [Instr.mapUpdate, run_underlying Tryd.underlying70, MapKept.run_getObj_map h1, hc, MapKept.run_findKey Tryd.underlying9 hf, MapKept.run_setObj_map _ h1, Result.andThen, setO]
    · refine ⟨_, _, setO_at W b _ _ h1, ?_, ?_, ?_⟩
      · intro x hx
        rw [Array.toList_push] at hx
        rcases List.mem_append.1 hx with hx | hx
        · have := h2 x hx; omega
        · rw [List.mem_singleton.1 hx]; exact Nat.lt_succ_self _
      · rw [Array.toList_push, List.map_append]
        refine List.nodup_append.2 ⟨h3, by simp, ?_⟩
        intro a ha d hd
        obtain ⟨x, hx, rfl⟩ := List.mem_map.1 ha
        have := h2 x hx
        simp only [List.map_cons, List.map_nil, List.mem_singleton] at hd
        omega
      · unfold putP
        rw [hi, Array.toList_push, List.map_append, List.map_append, h4]
        rfl
  · rw [hi] at hf
    obtain ⟨d, q1, q2⟩ := idx_some k l 0 j u hi
    have : j = d := by omega
    subst this
    have hej : (es.toList.map encE)[j]? = some (.string k, u) := by rw [h4, List.getElem?_map, q2]; rfl
    rw [List.getElem?_map] at hej
    obtain ⟨e, he, hee⟩ := Option.map_eq_some_iff.1 hej
    have hek : e.key = .string k := congrArg Prod.fst hee
    have he' : es[j]? = some e := by rw [← Array.getElem?_toList]; exact he
    refine ⟨es.modify j (fun e => { e with key := .string k, val := v }), c, ?_, ?_⟩
    · have hks : ∀ W : World, (Instr.keyThatStays (.string k) (.string k)).run Tryd.prog W = .ok (.string k) W := fun W => MapKept.run_keyThatStays (d := .string) (by simp [MapKept.IsKey])
      simp [Instr.mapUpdate, run_underlying Tryd.underlying70, MapKept.run_getObj_map h1, hc, MapKept.run_findKey Tryd.underlying9 hf, MapKept.run_setObj_map _ h1, he', hek, hks, Result.andThen, setO]
    · have hborn : (es.modify j (fun e => { e with key := .string k, val := v })).toList.map (·.born) = es.toList.map (·.born) := by
        apply List.ext_getElem?
        intro i
        simp only [List.getElem?_map, Array.getElem?_toList, Array.getElem?_modify]
        by_cases hij : j = i
        · subst hij
          rw [if_pos rfl, he']
          rfl
        · rw [if_neg hij]
      refine ⟨_, _, setO_at W b _ _ h1, ?_, hborn ▸ h3, ?_⟩
      · intro x hx
        have hm : x.born ∈ (es.modify j (fun e => { e with key := .string k, val := v })).toList.map (·.born) := List.mem_map.2 ⟨x, hx, rfl⟩
        rw [hborn] at hm
        obtain ⟨y, hy, hye⟩ := List.mem_map.1 hm
        rw [← hye]
        exact h2 y hy
      unfold putP
      rw [hi]
      simp only
      apply List.ext_getElem?
      intro i
      rw [List.getElem?_map, Array.getElem?_toList, Array.getElem?_modify, List.getElem?_map, List.getElem?_set]
      have h4i := congrArg (fun z => z[i]?) h4
      simp only [List.getElem?_map, Array.getElem?_toList] at h4i
      by_cases hij : j = i
      · subst hij
        rw [if_pos rfl, if_pos rfl, if_pos (List.getElem?_eq_some_iff.1 q2).1, he']
        rfl
      · rw [if_neg hij, if_neg hij]
        exact h4i
def IT (w : World) (it b : Nat) (left : List PV) : Prop :=
  ∃ since seen c0 es clock, w.heap[it]? = some (.mapIter (some b) since seen c0) ∧ w.heap[b]? = some (.map es clock) ∧ (∀ x ∈ es.toList, x.born < since) ∧ since ≤ c0 ∧ since ≤ clock ∧ (es.toList.map (·.born)).Nodup ∧ ((leftOf es seen).toList.map encE).Perm (left.map encP)
theorem IT.of_eq {w w' : World} {it b : Nat} {left : List PV} (h : IT w it b left) (e1 : w'.heap[it]? = w.heap[it]?) (e2 : w'.heap[b]? = w.heap[b]?) : IT w' it b left := by
  obtain ⟨s, n, c0, es, c, h1, h2, h3⟩ := h
  exact ⟨s, n, c0, es, c, e1.trans h1, e2.trans h2, h3⟩
theorem IT.lt {w : World} {it b : Nat} {left : List PV} (h : IT w it b left) : it < w.heap.size ∧ b < w.heap.size ∧ it ≠ b := by
  obtain ⟨s, n, c0, es, c, h1, h2, h3⟩ := h
  refine ⟨?_, ?_, ?_⟩
  · rcases Nat.lt_or_ge it w.heap.size with h3 | h3
    · exact h3
    · rw [Array.getElem?_eq_none h3] at h1; cases h1
  · rcases Nat.lt_or_ge b w.heap.size with h3 | h3
    · exact h3
    · rw [Array.getElem?_eq_none h3] at h2; cases h2
  · rintro rfl
    rw [h1] at h2
    cases h2
theorem IT.below {w w' : World} {it b : Nat} {left : List PV} (h : IT w it b left) (hb : Below w.heap.size w w') : IT w' it b left := h.of_eq (hb.block it h.lt.1) (hb.block b h.lt.2.1)
theorem range_sm (b : Nat) (l : List PV) (h : SM W b l) :
    ∃ o, (Instr.range mpt (.map (some b))).run Tryd.prog W = .ok (.pointer (some ⟨W.heap.size, 0, none⟩)) (W.alloc o) ∧ IT (W.alloc o) W.heap.size b l := by
  have hlt := h.lt
  obtain ⟨es, c, h1, h2, h3, h4⟩ := h
  refine ⟨_, range_it W b c es h1, c, #[], c, es, c, heap_alloc_new W _, (heap_alloc_old W _ hlt).trans h1, h2, Nat.le_refl _, Nat.le_refl _, h3, ?_⟩
  have e : leftOf es #[] = es := by unfold leftOf; simp
  rw [e, h4]
theorem nodup_split {L : List MapEntry} {e : MapEntry} (hn : (L.map (·.born)).Nodup) (he : e ∈ L) : L.Perm (e :: L.filter (fun x => x.born != e.born)) := by
  induction L with
  | nil => cases he
  | cons x L ih =>
    rw [List.map_cons, List.nodup_cons] at hn
    by_cases hx : x = e
    · subst hx
      have : L.filter (fun y => y.born != x.born) = L := List.filter_eq_self.2 (fun y hy => by
        simp only [bne_iff_ne]
        intro hh
        exact hn.1 (List.mem_map.2 ⟨y, hy, hh⟩))
      rw [List.filter_cons, if_neg (by simp), this]
    · have hm : e ∈ L := by
        rcases List.mem_cons.1 he with h | h
        · exact absurd h.symm hx
        · exact h
      have hne : x.born ≠ e.born := fun hh => hn.1 (List.mem_map.2 ⟨e, hm, hh.symm⟩)
      rw [List.filter_cons, if_pos (by simpa using hne)]
      exact ((ih hn.2 hm).cons x).trans (List.Perm.swap e x _)
theorem next_sm (it b : Nat) (left : List PV) (h : IT W it b left) :
    (left = [] ∧ ∀ ty, (Instr.next (.pointer (some ⟨it, 0, none⟩)) false ty).run Tryd.prog W = .ok (.tuple #[.bool false]) W) ∨
    ∃ (p : PV) (left' : List PV) (w1 W' : World) (o : Obj), left.Perm (p :: left') ∧ (w1 = W ∨ w1 = W.drew) ∧ W' = setO w1 it o ∧ (∀ ty, (Instr.next (.pointer (some ⟨it, 0, none⟩)) false ty).run Tryd.prog W = .ok (.tuple #[.bool true, .string p.1, p.2]) W') ∧
      IT W' it b left' ∧ (Instr.entry (.pointer (some ⟨it, 0, none⟩))).run Tryd.prog W' = .ok (.tuple #[.string p.1, p.2]) W' := by
  have hlt := h.lt
  obtain ⟨since, seen, c0, es, c, h1, h2, h3, h4, h4c, h5, h6⟩ := h
  rcases run_next_at (P := Tryd.prog) W 0 it b since c0 seen es c h1 h2 h3 h4 with ⟨k1, k2⟩ | ⟨e, he, w1, k1, k2⟩
  · left
    have e0 : (leftOf es seen).toList = [] := List.length_eq_zero_iff.1 (by rw [Array.length_toList]; exact k1)
    rw [e0] at h6
    have := h6.length_eq
    refine ⟨List.length_eq_zero_iff.1 (by simpa using this.symm), fun ty => ?_⟩
    exact k2
  · right
    have hes : e ∈ es.toList := by
      unfold leftOf at he
      simp only [Array.toList_filter, List.mem_filter] at he
      exact he.1
    have hmem : encE e ∈ left.map encP := h6.mem_iff.1 (List.mem_map.2 ⟨e, he, rfl⟩)
    obtain ⟨p, hp, hpe⟩ := List.mem_map.1 hmem
    obtain ⟨s, t, rfl⟩ := List.append_of_mem hp
    have hk : e.key = .string p.1 := (congrArg Prod.fst hpe).symm
    have hv : e.val = p.2 := (congrArg Prod.snd hpe).symm
    have hw1 : w1.heap = W.heap := by rcases k1 with rfl | rfl <;> rfl
    have hi' : (setO w1 it (.mapIter (some b) since (seen.push e.born) c)).heap[it]? = some (.mapIter (some b) since (seen.push e.born) c) := setO_at w1 it _ _ (by rw [hw1]; exact h1)
    have hb' : (setO w1 it (.mapIter (some b) since (seen.push e.born) c)).heap[b]? = some (.map es c) := by rw [setO_far _ _ _ _ (Ne.symm hlt.2.2), hw1]; exact h2
    refine ⟨p, s ++ t, w1, _, .mapIter (some b) since (seen.push e.born) c, List.perm_middle, k1, rfl, fun ty => ?_, ?_, ?_⟩
    · rw [← hk, ← hv]
      exact k2
    · refine ⟨since, seen.push e.born, c, es, c, hi', hb', h3, h4c, h4c, h5, ?_⟩
      · have hn : ((leftOf es seen).toList.map (·.born)).Nodup := by
          unfold leftOf
          rw [Array.toList_filter]
          exact ((List.filter_sublist).map _).nodup h5
        have hsp := nodup_split hn he
        have hfl : (leftOf es seen).toList.filter (fun x => x.born != e.born) = (leftOf es (seen.push e.born)).toList := by
          unfold leftOf
          rw [Array.toList_filter, Array.toList_filter, List.filter_filter]
          apply List.filter_congr
          intro x hx
          simp only [Array.contains_push, Bool.not_or]
          rw [Bool.and_comm]
          congr 1
        rw [hfl] at hsp
        have h7 := (hsp.map encE).symm.trans h6
        rw [List.map_cons, List.map_append, List.map_cons, ← hpe] at h7
        have h8 := h7.trans List.perm_middle
        rw [List.map_append]
        exact h8.cons_inv
    · rw [← hk, ← hv]
      exact run_entry_at _ it b since seen es c e hi' hb' hes h5
end
end Go.Proofs.YtbpmgaaipkenkaaDoor
end
section
namespace Go.Proofs.YtbpmgaaipkenkaaDoor
open Go Go.RowKit Go.Proofs.YtbpmgaaipkenkaaDoorW.PrintWords Go.Proofs.YtbpmgaaipkenkaaDoorW.PrintLast Go.Proofs.YtbpmgaaipkenkaaDoorW.PrintMore
set_option linter.unusedVariables false
set_option linter.unusedSimpArgs false
attribute [local go_sem ↓] Go.wp_at_zero Go.wp_at_succ
theorem st0 (W : World) (x : Addr) : (storeCells x []).run Tryd.prog W = .ok () W := by simp [storeCells]
theorem pr0 {α : Type} (W : World) (a : α) : (pure a : Sem α).run Tryd.prog W = .ok a W := by simp
set_option maxRecDepth 20000 in
theorem own_nil_c (W : World) (A : Option Addr) (c : Nat) : Calls Tryd.prog 42 #[.slice A 0 c] W fun e w' => ∃ (x : Addr) (c' : Nat), e = .returned (.slice (some x) 0 c') ∧ Below W.heap.size W w' := by
  rcases A with _ | A
  all_goals
    go_enter Tryd.func42, Tryd.ntmps42
    go_wp2
    try simp only [pr0, Result.andThen, Array.toList_empty, st0]
    try go_wp2
    go_ret
    exact ⟨_, _, rfl, below_alloc (Below.refl _ _) _⟩
end Go.Proofs.YtbpmgaaipkenkaaDoor
end
section
namespace Go.Proofs.YtbpmgaaipkenkaaDoor.PMS
open Go.RowKit Go.Proofs.YtbpmgaaipkenkaaDoorW.PrintWords Go.Proofs.YtbpmgaaipkenkaaDoorW.PrintLast Go.Proofs.YtbpmgaaipkenkaaDoorW.PrintMore
attribute [local go_sem] max2_int min2_int max_two min_two max_three min_three max_four min_four
set_option linter.unusedVariables false
set_option linter.unusedSimpArgs false
def errW : Option Int → Value
 | none => .nilIface
 | some c => .iface 0 (.int .i64 c)
theorem errW_none : errW none = .nilIface := rfl
theorem errW_some (c : Int) : errW (some c) = .iface 0 (.int .i64 c) := rfl
theorem info5 : (Tryd.prog.info? 5).map (fun i => (i.zero, i.size, i.bytes)) = some (some (.int .u8 0), 1, 1) := by kernel_rfl
theorem info61 : (Tryd.prog.info? 61).map (fun i => (i.zero, i.size, i.bytes)) = some (some (.slice none 0 0), 1, 24) := by kernel_rfl
theorem info66 : (Tryd.prog.info? 66).map (fun i => (i.zero, i.size, i.bytes)) = some (some (.agg #[(.string ⟨#[]⟩), (.string ⟨#[]⟩)]), 2, 32) := by kernel_rfl
structure S66 where
 f0 : ByteArray
 f1 : ByteArray
def z66 : S66 := ⟨(⟨#[]⟩ : ByteArray), (⟨#[]⟩ : ByteArray)⟩
def k66 : Kd S66 := Kd.iso (Kd.pair Kd.string Kd.string) (fun x : S66 => (x.f0, x.f1))
theorem k66_open {w : World} {x : S66} {cs : List Value} (h : k66.K w x cs) : cs = [.string x.f0, .string x.f1] := by
 obtain ⟨_, _, rfl, rfl, rfl⟩ := h
 exact rfl
theorem k66_mk (w : World) (x : S66)  : k66.K w x [.string x.f0, .string x.f1] := ⟨[.string x.f0], [.string x.f1], rfl, rfl, rfl⟩
def rd_T66 (xs : List S66) (i : Int) : S66 := xs.getD i.toNat z66
theorem at_T66 {w : World} {A : Option Addr} {n : Nat} {xs : List S66} (h : Kd.C k66 w A n xs) (i : Int) (h0 : 0 ≤ i) (h1 : i < n) : ∃ ad , A = some ad ∧ w.cell? (ad.add (i.toNat * 2)) = some (.string (rd_T66 xs i).f0) ∧ w.cell? ⟨(ad.add (i.toNat * 2)).block, (ad.add (i.toNat * 2)).off + 1, none⟩ = some (.string (rd_T66 xs i).f1) := by
 obtain ⟨ad, c, e, _, hK, hc0⟩ := Kd.C_get h z66 i h0 h1
 have hc : ∀ j u, c[j]? = some u → w.cell? (ad.add (i.toNat * 2 + j)) = some u := hc0
 obtain rfl := k66_open hK
 exact ⟨ad, e, hc 0 _ rfl, by rw [← add_field _ _ 1 (by omega)]; exact hc 1 _ rfl⟩
def rd_L5 (xs : List (List S66)) (i : Int) : (List S66) := xs.getD i.toNat ([] : List S66)
theorem at_L5 {w : World} {A : Option Addr} {n : Nat} {xs : List (List S66)} (h : Kd.C (Kd.slice 66 k66) w A n xs) (i : Int) (h0 : 0 ≤ i) (h1 : i < n) : ∃ ad A0 c0, A = some ad ∧ w.cell? (ad.add i.toNat) = some (.slice A0 (rd_L5 xs i).length c0) ∧ (rd_L5 xs i).length ≤ c0 ∧ k66.C w A0 (rd_L5 xs i).length (rd_L5 xs i) := by
 obtain ⟨ad, c, e, _, hK, hc0⟩ := Kd.C_get h ([] : List S66) i h0 h1
 have hc : ∀ j u, c[j]? = some u → w.cell? (ad.add (i.toNat * 1 + j)) = some u := hc0
 obtain ⟨A0, c0, rfl, l0, g0⟩ := hK
 exact ⟨ad, A0, c0, e, by have hq := hc 0 _ rfl; rwa [Nat.mul_one, Nat.add_zero] at hq, l0, g0⟩
end Go.Proofs.YtbpmgaaipkenkaaDoor.PMS
end
