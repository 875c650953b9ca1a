import Derived.Test.YtbpmgaaipkenkaaDoorCLimitNonePMCx0
import Derived.Test.YtbpmgaaipkenkaaDoorCLimitNonePMCx1
import Derived.Test.YtbpmgaaipkenkaaDoorCLimitNonePMCx2
import Derived.WideMake
import Derived.Laws.IdiomRangeMap
import Derived.Laws.Cover3
import Derived.Test.YtbpmgaaipkenkaaDoorCLimitNoneO2
import Derived.Lib.ConvBytes
import Derived.Laws.Externs
import Derived.WalkKit
import Derived.Lib.Hide
import Derived.Test.YtbpmgaaipkenkaaDoorProg
import Derived.Below
import Derived.Deep.Draws
import Derived.Deep.AppendLies
import Derived.Maps.AppendAt
import Derived.OwnWalk
import Derived.Laws.BytesArg
import Derived.Laws.MakeOwn
import Derived.Laws.OwnMore
import Derived.Deep.OwnRows
import Derived.Tactics
import Derived.Laws.Slices
import Derived.KernelRfl
import Derived.RowKit3
import Derived.Deep.LoopGhost
import Derived.Deep.QuietTactic
import Derived.BigQuiet
import Derived.WideLaws
import Derived.Deep.DeepCutAuto
import Derived.Deep.CutBlock
import Derived.Deep.RegionHeld3
import Derived.Laws.Rows
import Derived.Lib.AppendStr
import Derived.ArgAppend
import Derived.Laws.IdiomCopy
import Derived.OrdersHeld
import Derived.Laws.BitsLemmas
import Derived.RowKit
import Derived.Test.YtbpmgaaipkenkaaDoorCLimitNoneWWords
import Derived.Laws.StructEq
section
namespace Go.Proofs.YtbpmgaaipkenkaaDoor
open Go Go.RowKit Go.Proofs.YtbpmgaaipkenkaaDoorW.PrintWords Go.Proofs.YtbpmgaaipkenkaaDoorW.PrintLast Go.Proofs.YtbpmgaaipkenkaaDoorW.PrintMore
set_option linter.unusedVariables false
set_option linter.unusedSimpArgs false
attribute [local go_sem ↓] Go.wp_at_zero Go.wp_at_succ
theorem lower_m {B B' : Nat} {w w' : World} (h : Below B w w') (hle : B' ≤ B) : Below B' w w' := ⟨h.os, h.tape, h.output, h.size, fun k hk => h.block k (by omega)⟩
def made (w : World) : World := (w.alloc (.map #[] 0)).alloc (.cells #[.map (some w.heap.size)] 72)
theorem new_calls (w : World) : Calls Tryd.prog 27 #[] w fun e w' => e = .returned (.pointer (some ⟨w.heap.size + 1, 0, none⟩)) ∧ w' = made w := by
  have hm := run_makeMap (P := Tryd.prog) 70
  go_enter Tryd.func27, Tryd.ntmps27
  go_wp2
  go_ret
  refine ⟨?_, rfl⟩
  simp
set_option maxRecDepth 20000 in
theorem ok_calls (w : World) (g b : Nat) (hg : w.heap[g]? = some (.cells #[.map (some b)] 72 (0, 0))) :
    Calls Tryd.prog 39 #[.pointer (some ⟨g, 0, none⟩)] w fun e w' => e = .returned (.bool true) ∧ Drawn0 w w' := by
  have hc : w.cell? ⟨g, 0, none⟩ = some (.map (some b)) := (blk_cell hg 0).trans rfl
  have hn : ∀ W : World, (binOp .neq 70 (.map (some b)) (.map none)).run Tryd.prog W = .ok (.bool true) W := fun W => run_neq_map_nil W _ _ _ (some b) Tryd.underlying70
  go_enter Tryd.func39, Tryd.ntmps39
  go_wp2
  go_ret
  exact ⟨rfl, by repeat (first | exact Drawn0.refl _ | apply Drawn0.step)⟩
section
variable (W : World)
abbrev mty : TypeId := 70
theorem zero_labels : (zeroValue 61).run Tryd.prog W = .ok (.slice none 0 0) W := by
  obtain ⟨i, hi, hz⟩ := Option.map_eq_some_iff.1 (show (Tryd.prog.info? 61).map (·.zero) = some (some (.slice none 0 0)) by kernel_rfl)
  simp [zeroValue, typeInfo, hi, hz]
theorem key_ok' (s : ByteArray) : (Instr.checkKey true 10000 9 (.string s)).run Tryd.prog W = .ok () W := MapKept.run_checkKey (k := .string s) Tryd.underlying9 (by simp [MapKept.IsKey]) true 9999
theorem lookup_empty (b clock : Nat) (s : ByteArray) (hb : W.heap[b]? = some (.map #[] clock)) :
    (Instr.lookup mty (.map (some b)) (.string s) false).run Tryd.prog W = .ok (.slice none 0 0) W := by
  have hf : Instr.findNow .string (.string s) ([] : List MapEntry) 0 = some none := rfl
  simp [Instr.lookup, run_underlying Tryd.underlying70, MapKept.run_getObj_map hb, key_ok' W s, MapKept.run_findKey Tryd.underlying9 hf, zero_labels W, Result.andThen]
theorem len_map (b clock : Nat) (es : Array MapEntry) (ty : TypeId) (hb : W.heap[b]? = some (.map es clock)) :
    (Builtin.len_ #[mty] ty #[.map (some b)]).run Tryd.prog W = .ok (.int .i64 (es.size : Int)) W := by
  simp [Builtin.len_, run_underlying Tryd.underlying70, MapKept.run_getObj_map hb, goInt, Result.andThen]
def setO (r : Nat) (o : Obj) : World := { W with heap := W.heap.setIfInBounds r o }
theorem setO_at (r : Nat) (o o' : Obj) (h : W.heap[r]? = some o') : (setO W r o).heap[r]? = some o := by
  have hlt : r < W.heap.size := by
    rcases Nat.lt_or_ge r W.heap.size with h2 | h2
    · exact h2
    · rw [Array.getElem?_eq_none h2] at h; cases h
  simp [setO, Array.getElem?_setIfInBounds, hlt]
theorem setO_far (r k : Nat) (o : Obj) (h : k ≠ r) : (setO W r o).heap[k]? = W.heap[k]? := by
  simp [setO, Array.getElem?_setIfInBounds, Ne.symm h]
theorem setO_size (r : Nat) (o : Obj) : (setO W r o).heap.size = W.heap.size := by simp [setO]
theorem update_first (b clock : Nat) (s : ByteArray) (v : Value) (hb : W.heap[b]? = some (.map #[] clock)) :
    (Instr.mapUpdate mty (.map (some b)) (.string s) v).run Tryd.prog W = .ok () (setO W b (.map #[{ key := .string s, val := v, born := clock }] (clock + 1))) :=
  run_mapUpdate_first (w := W) mty _ _ b clock s v Tryd.underlying70 Tryd.underlying9 hb
theorem range_it (b clock : Nat) (es : Array MapEntry) (hb : W.heap[b]? = some (.map es clock)) :
    (Instr.range mty (.map (some b))).run Tryd.prog W = .ok (.pointer (some ⟨W.heap.size, 0, none⟩)) (W.alloc (.mapIter (some b) clock #[] clock)) :=
  run_range_map W mty _ _ b es clock Tryd.underlying70 hb
theorem get_it (r : Nat) (m : Option Nat) (s c : Nat) (seen : Array Nat) (h : W.heap[r]? = some (.mapIter m s seen c)) : (getObj r).run Tryd.prog W = .ok (.mapIter m s seen c) W := by simp [getObj, Sem.run, h]
theorem set_it (r : Nat) (m : Option Nat) (s c : Nat) (seen : Array Nat) (o : Obj) (h : W.heap[r]? = some (.mapIter m s seen c)) : (setObj r o).run Tryd.prog W = .ok () (setO W r o) := by simp [setObj, Sem.run, h, setO]
theorem next_one (it b : Nat) (k v : Value) (ty : TypeId) (hi : W.heap[it]? = some (.mapIter (some b) 1 #[] 1)) (hb : W.heap[b]? = some (.map #[{ key := k, val := v, born := 0 }] 1)) :
    (Instr.next (.pointer (some ⟨it, 0, none⟩)) false ty).run Tryd.prog W = .ok (.tuple #[.bool true, k, v]) (setO W it (.mapIter (some b) 1 #[0] 1)) := by
  simp [Instr.next, get_it W it _ _ _ _ hi, MapKept.run_getObj_map hb, set_it W it _ _ _ _ _ hi, Result.andThen, Question.forced]
theorem next_end (it b : Nat) (k v : Value) (ty : TypeId) (hi : W.heap[it]? = some (.mapIter (some b) 1 #[0] 1)) (hb : W.heap[b]? = some (.map #[{ key := k, val := v, born := 0 }] 1)) :
    (Instr.next (.pointer (some ⟨it, 0, none⟩)) false ty).run Tryd.prog W = .ok (.tuple #[.bool false]) W := by
  simp [Instr.next, get_it W it _ _ _ _ hi, MapKept.run_getObj_map hb, Result.andThen, Question.forced]
theorem entry_one (it b : Nat) (k v : Value) (hi : W.heap[it]? = some (.mapIter (some b) 1 #[0] 1)) (hb : W.heap[b]? = some (.map #[{ key := k, val := v, born := 0 }] 1)) :
    (Instr.entry (.pointer (some ⟨it, 0, none⟩))).run Tryd.prog W = .ok (.tuple #[k, v]) W := by
  simp [Instr.entry, get_it W it _ _ _ _ hi, MapKept.run_getObj_map hb, Result.andThen]
end
end Go.Proofs.YtbpmgaaipkenkaaDoor
end
section
namespace Go.Proofs.YtbpmgaaipkenkaaDoor
open Go Go.RowKit Go.Proofs.YtbpmgaaipkenkaaDoorW.PrintWords Go.Proofs.YtbpmgaaipkenkaaDoorW.PrintLast Go.Proofs.YtbpmgaaipkenkaaDoorW.PrintMore
set_option linter.unusedVariables false
set_option linter.unusedSimpArgs false
attribute [local go_sem ↓] Go.wp_at_zero Go.wp_at_succ
abbrev sa : ByteArray := ⟨#[97]⟩
abbrev sx : ByteArray := ⟨#[120]⟩
abbrev lab1 : PMC.S66 := ⟨sa, sx⟩
abbrev nm : ByteArray := ⟨#[123, 97, 61, 34, 120, 34, 125]⟩
theorem right1 : PMC.labels_Right.f 9 [lab1] = some 0 := by kernel_rfl
theorem print1 : PMC.labels_Print.f 9 [lab1] = some nm := by kernel_rfl
theorem own1 : PMC.limit_own.f [lab1] = some [lab1] := by kernel_rfl
theorem lab_C (W : World) (x : Nat) (hx : W.heap[x]? = some (.cells #[.string sa, .string sx] 66 (0, 0))) : PMC.k66.C W (some ⟨x, 0, none⟩) 1 [lab1] := by
  refine ⟨rfl, by decide, fun _ => ⟨_, rfl, fun j p hj => ?_⟩⟩
  rcases j with _ | j
  · simp only [List.getElem?_cons_zero, Option.some.injEq] at hj
    subst hj
    refine ⟨[.string sa, .string sx], rfl, ?_, fun i u hu => ?_⟩
    · exact PMC.k66_mk W lab1
    · have e : (⟨x, 0, none⟩ : Addr).add (0 * PMC.k66.sz + i) = ⟨x, i, none⟩ := by
        rw [Nat.zero_mul, Addr.add_mid]; simp
      rw [e]
      refine (blk_cell hx i).trans ?_
      simpa using hu
  · simp at hj
theorem right_c (W : World) (x : Nat) (hT : Tab W) (hC : PMC.k66.C W (some ⟨x, 0, none⟩) 1 [lab1]) : Calls Tryd.prog 40 #[.slice (some ⟨x, 0, none⟩) 1 1] W fun e w' => e = .returned (.int .i64 0) ∧ Below W.heap.size W w' :=
  PMC.labels_Right.calls 9 (some ⟨x, 0, none⟩) 1 [lab1] 0 W ⟨hT⟩ hC (by decide) right1
theorem print_c (W : World) (x : Nat) (hC : PMC.k66.C W (some ⟨x, 0, none⟩) 1 [lab1]) : Calls Tryd.prog 41 #[.slice (some ⟨x, 0, none⟩) 1 1] W fun e w' => e = .returned (.string nm) ∧ Below W.heap.size W w' :=
  PMC.labels_Print.calls 9 (some ⟨x, 0, none⟩) 1 [lab1] nm W hC (by decide) print1
theorem own_c (W : World) (x : Nat) (hC : PMC.k66.C W (some ⟨x, 0, none⟩) 1 [lab1]) : Calls Tryd.prog 42 #[.slice (some ⟨x, 0, none⟩) 1 1] W fun e w' => ∃ (A : Option Addr) (c : Nat), e = .returned (.slice A 1 c) ∧ Below W.heap.size W w' := by
  refine (PMC.limit_own.calls (some ⟨x, 0, none⟩) 1 [lab1] [lab1] W hC (by decide) own1).mono ?_
  rintro e w' ⟨v, rfl, hR, hB⟩
  obtain ⟨A, c, rfl⟩ := Kd.R_slice hR
  exact ⟨A, c, rfl, hB⟩
theorem below_dr {w w' : World} (h : Drawn0 w w') : Below w.heap.size w w' := by
  obtain ⟨n, rfl⟩ := h
  exact pw_below_drewN (Below.refl _ _) n
theorem map_below {w w1 : World} {r c : Nat} {es : Array MapEntry} (h : w.heap[r]? = some (.map es c)) (hb : Below w.heap.size w w1) : w1.heap[r]? = some (.map es c) :=
  (hb.block r (by
    rcases Nat.lt_or_ge r w.heap.size with h2 | h2
    · exact h2
    · rw [Array.getElem?_eq_none h2] at h; cases h)).trans h
theorem below_setO {B : Nat} {w w1 : World} {r : Nat} {o : Obj} (h : Below B w w1) (hr : B ≤ r) : Below B w (setO w1 r o) :=
  ⟨h.os, h.tape, h.output, by rw [setO_size]; exact h.size, fun k hk => (setO_far w1 r k o (by omega)).trans (h.block k hk)⟩
theorem mod_setO {S : Nat → Prop} {w w1 : World} {r : Nat} {o : Obj} (h : Mod S w w1) (hr : S r ∨ w.heap.size ≤ r) : Mod S w (setO w1 r o) :=
  ⟨h.os, h.tape, h.output, by rw [setO_size]; exact h.size, fun k hk hn => (setO_far w1 r k o (by
    rintro rfl
    rcases hr with hr | hr
    · exact hn hr
    · omega)).trans (h.block k hk hn)⟩
structure L3 (w wr : World) (g b fb it : Nat) (s : ByteArray) (v : Value) (i : Nat) : Prop where
  qi : wr.heap[it]? = some (.mapIter (some fb) 1 (if i = 0 then #[] else #[0]) 1)
  qf : wr.heap[fb]? = some (.map #[{ key := .string s, val := v, born := 0 }] 1)
  qb : i = 0 → wr.heap[b]? = some (.map #[] 0)
  qg : wr.heap[g]? = some (.cells #[.map (some b)] 72 (0, 0))
  qm : Mod (fun k => k = b) w wr
  qw : w.heap.size ≤ it
set_option maxRecDepth 20000 in
set_option maxHeartbeats 4000000 in
theorem admit_calls (w : World) (hT : Tab w) (g b x y : Nat) (hg : w.heap[g]? = some (.cells #[.map (some b)] 72 (0, 0))) (hb : w.heap[b]? = some (.map #[] 0)) (hx : w.heap[x]? = some (.cells #[.string sa, .string sx] 66 (0, 0))) (hy : w.heap[y]? = some (.cells #[.slice (some ⟨x, 0, none⟩) 1 1] 61 (0, 0))) :
    Calls Tryd.prog 30 #[.pointer (some ⟨g, 0, none⟩), .slice (some ⟨y, 0, none⟩) 1 1, .int .i64 1] w fun e w' => e = .returned (.tuple #[.int .i64 1, .int .i64 0]) ∧ Mod (fun k => k = b) w w' := by
  have HT := Lib.hid (fun (W : World) (hW : Below w.heap.size w W) => Tab_below hT hW)
  have HG := Lib.hid (fun (W : World) (hW : Below w.heap.size w W) => (hW.block g (blk_lt hg)).trans hg)
  have HB := Lib.hid (fun (W : World) (hW : Below w.heap.size w W) => (hW.block b (by
    rcases Nat.lt_or_ge b w.heap.size with h2 | h2
    · exact h2
    · rw [Array.getElem?_eq_none h2] at hb; cases hb)).trans hb)
  have HX := Lib.hid (fun (W : World) (hW : Below w.heap.size w W) => lab_C W x ((hW.block x (blk_lt hx)).trans hx))
  have HY := Lib.hid (fun (W : World) (hW : Below w.heap.size w W) => ((blk_cell ((hW.block y (blk_lt hy)).trans hy) 0).trans rfl : W.cell? ⟨y, 0, none⟩ = some (.slice (some ⟨x, 0, none⟩) 1 1)))
  clear hT hg hb hx hy
  go_enter Tryd.func30, Tryd.ntmps30
  go_wp2_with (go_at_call 39; (with_reducible refine (ok_calls w g b (HG.out w (Below.refl _ w))).mono ?_); rintro e w1 ⟨rfl, hD⟩; have HB1 := Lib.hid (below_dr hD); clear hD)
  go_loopg [22] 1 (fun kq s22 wr => ∃ i : Nat, i + kq = 1 ∧ s22 = .int .i64 (i : Int) ∧ Hid (Below w.heap.size w wr))
  case atStart => exact ⟨0, rfl, rfl, HB1.out⟩
  case round =>
    obtain ⟨i, hi, rfl, hBr⟩ := hrel
    rcases (by omega : i = 0 ∨ i = 1) with rfl | rfl
    · have hcy := HY.out wr hBr.out
      go_wp2_with (go_at_call 40; (with_reducible refine (right_c wr x (HT.out wr hBr.out) (HX.out wr hBr.out)).mono ?_); rintro e w3 ⟨rfl, hB3⟩; have HB3 := Lib.hid (hBr.out.trans (lower_m hB3 hBr.out.size)); clear hB3)
      go_roundg (gk - 1)
      case measure => omega
      case rel => exact ⟨1, by omega, rfl, HB3.out⟩
    · have hmk := run_makeMap (P := Tryd.prog) 70
      go_wp2
      obtain ⟨W0, hW0⟩ : ∃ W0, W0 = wr.alloc (.map #[] 0) := ⟨_, rfl⟩
      obtain ⟨fb, hfb⟩ : ∃ fb, fb = wr.heap.size := ⟨_, rfl⟩
      have HB0 : Hid (Below w.heap.size w W0) := Lib.hid (by rw [hW0]; exact below_alloc hBr.out _)
      have HF0 : Hid (W0.heap[fb]? = some (.map #[] 0)) := Lib.hid (by rw [hW0, hfb]; exact heap_alloc_new wr _)
      have HFW : Hid (w.heap.size ≤ fb) := Lib.hid (by rw [hfb]; exact hBr.out.size)
      rw [← hW0, ← hfb]
      clear hW0 hfb hmk
      clear hBr
      go_loopg [35] 1 (fun kq s35 wr => ∃ i : Nat, i + kq = 1 ∧ s35 = .int .i64 (i : Int) ∧ Hid (Below w.heap.size w wr) ∧ Hid ((i = 0 ∧ wr.heap[fb]? = some (.map #[] 0)) ∨ (i = 1 ∧ ∃ v, wr.heap[fb]? = some (.map #[{ key := .string nm, val := v, born := 0 }] 1))))
      case atStart => exact ⟨0, rfl, rfl, HB0.out, .inl ⟨rfl, HF0.out⟩⟩
      case round =>
        obtain ⟨i, hi, rfl, hBz, hF⟩ := hrel
        rcases (by omega : i = 0 ∨ i = 1) with rfl | rfl
        · have hcy := HY.out wr hBz.out
          have hf : wr.heap[fb]? = some (.map #[] 0) := by
            rcases hF.out with ⟨_, h⟩ | ⟨h, _⟩
            · exact h
            · exact absurd h (by decide)
          have HFZ := Lib.hid hf
          clear hf hF
          have heq : ∀ W : World, (binOp .eql 61 (.slice none 0 0) (.slice none 0 0)).run Tryd.prog W = .ok (.bool true) W := fun W => by
            simp only [binOp]
            simp [run_equal_slice_nil W 61 _ none 0 0 Tryd.underlying61]
          go_wp2_with (first
            | (go_at_call 41; (with_reducible refine (print_c wr x (HX.out wr hBz.out)).mono ?_); rintro e w4 ⟨rfl, hB4⟩; have HF4 := Lib.hid (map_below HFZ.out hB4); have HB4 := Lib.hid (hBz.out.trans (lower_m hB4 hBz.out.size)); clear hB4; have hlk := lookup_empty w4 b 0 nm (HB.out w4 HB4.out); have hgc : w4.cell? ⟨g, 0, none⟩ = some (.map (some b)) := (blk_cell (HG.out w4 HB4.out) 0).trans rfl)
            | (go_at_call 42; (with_reducible refine (own_c w4 x (HX.out w4 HB4.out)).mono ?_); rintro e w5 ⟨A5, c5, rfl, hB5⟩; have hf5 := map_below HF4.out hB5; have HB5 := Lib.hid (HB4.out.trans (lower_m hB5 HB4.out.size)); clear hB5; have hmu := update_first w5 fb 0 nm (.slice A5 1 c5) hf5; obtain ⟨W6, hW6⟩ : ∃ W6, W6 = setO w5 fb (.map #[{ key := .string nm, val := .slice A5 1 c5, born := 0 }] (0 + 1)) := ⟨_, rfl⟩; rw [← hW6] at hmu; have HF6 : Hid (W6.heap[fb]? = some (.map #[{ key := .string nm, val := .slice A5 1 c5, born := 0 }] 1)) := Lib.hid (by rw [hW6]; exact setO_at w5 fb _ _ hf5); have HB6 : Hid (Below w.heap.size w W6) := Lib.hid (by rw [hW6]; exact below_setO HB5.out HFW.out); clear hW6 hf5))
          go_roundg (gk - 1)
          case measure => omega
          case rel => exact ⟨1, by omega, rfl, HB6.out, .inr ⟨rfl, _, HF6.out⟩⟩
        · obtain ⟨v, hv⟩ : ∃ v, wr.heap[fb]? = some (.map #[{ key := .string nm, val := v, born := 0 }] 1) := by
            rcases hF.out with ⟨h, _⟩ | ⟨_, h⟩
            · exact absurd h (by decide)
            · exact h
          have HV := Lib.hid hv
          have hl1 := len_map wr fb 1 #[{ key := .string nm, val := v, born := 0 }] 3 hv
          have hl0 := len_map wr b 0 #[] 3 (HB.out wr hBz.out)
          have hgc : wr.cell? ⟨g, 0, none⟩ = some (.map (some b)) := (blk_cell (HG.out wr hBz.out) 0).trans rfl
          have hl1n := fun n : Nat => len_map (wr.drewN n) fb 1 #[{ key := .string nm, val := v, born := 0 }] 3 hv
          have hl0n := fun n : Nat => len_map (wr.drewN n) b 0 #[] 3 (HB.out wr hBz.out)
          clear hv hF
          go_wp2
          go_quiet (fail)
          have HBq := Lib.hid (pw_below_drewN hBz.out nq)
          have HVq : Hid ((wr.drewN nq).heap[fb]? = some (.map #[{ key := .string nm, val := v, born := 0 }] 1)) := HV
          generalize wr.drewN nq = W7 at HBq HVq
          clear hl1 hl0 hl1n hl0n hgc HV
          have hrg := range_it W7 fb 1 #[{ key := .string nm, val := v, born := 0 }] HVq.out
          obtain ⟨it, hit⟩ : ∃ it, it = W7.heap.size := ⟨_, rfl⟩
          obtain ⟨W8, hW8⟩ : ∃ W8, W8 = W7.alloc (.mapIter (some fb) 1 #[] 1) := ⟨_, rfl⟩
          have hff : fb < W7.heap.size := by
            rcases Nat.lt_or_ge fb W7.heap.size with h2 | h2
            · exact h2
            · have := HVq.out; rw [Array.getElem?_eq_none h2] at this; cases this
          have hbb : b < w.heap.size := by
            rcases Nat.lt_or_ge b w.heap.size with h2 | h2
            · exact h2
            · have := HB.out w (Below.refl _ _); rw [Array.getElem?_eq_none h2] at this; cases this
          have HNE := Lib.hid (And.intro (show fb ≠ it by omega) (And.intro (show b ≠ it by have := HBq.out.size; omega) (And.intro (show b ≠ fb by have := HFW.out; omega) (show g ≠ it ∧ g ≠ b by
            have h1 := HG.out w (Below.refl _ _)
            have h2 := blk_lt h1
            refine ⟨by have := HBq.out.size; omega, fun e => ?_⟩
            have h3 := HB.out w (Below.refl _ _)
            rw [e, h3] at h1
            cases h1))))
          have HL : Hid (L3 w W8 g b fb it nm v 0) := Lib.hid (by
            rw [hW8]
            have hbn := below_alloc HBq.out (.mapIter (some fb) 1 #[] 1)
            exact ⟨by rw [hit]; exact heap_alloc_new W7 _, (heap_alloc_old W7 _ hff).trans HVq.out, fun _ => HB.out _ hbn, HG.out _ hbn, Mod.of_below hbn _, by rw [hit]; exact HBq.out.size⟩)
          rw [← hW8, ← hit] at hrg
          clear hW8 hit hff hbb
          go_wp2
          go_loopg [] 1 (fun kq wr => ∃ i : Nat, i + kq = 1 ∧ Hid (L3 w wr g b fb it nm v i))
          case atStart => exact ⟨0, rfl, HL.out⟩
          case round =>
            obtain ⟨i, hi, hL⟩ := hrel
            rcases (by omega : i = 0 ∨ i = 1) with rfl | rfl
            · have hnx := fun ty => next_one wr it fb (.string nm) v ty hL.out.qi hL.out.qf
              obtain ⟨W9, hW9⟩ : ∃ W9, W9 = setO wr it (.mapIter (some fb) 1 #[0] 1) := ⟨_, rfl⟩
              have h9i : W9.heap[it]? = some (.mapIter (some fb) 1 #[0] 1) := by rw [hW9]; exact setO_at wr it _ _ hL.out.qi
              have h9f : W9.heap[fb]? = some (.map #[{ key := .string nm, val := v, born := 0 }] 1) := by rw [hW9, setO_far _ _ _ _ HNE.out.1]; exact hL.out.qf
              have h9b : W9.heap[b]? = some (.map #[] 0) := by rw [hW9, setO_far _ _ _ _ HNE.out.2.1]; exact hL.out.qb rfl
              have h9g : W9.heap[g]? = some (.cells #[.map (some b)] 72 (0, 0)) := by rw [hW9, setO_far _ _ _ _ HNE.out.2.2.2.1]; exact hL.out.qg
              have h9m : Mod (fun k => k = b) w W9 := by rw [hW9]; exact mod_setO hL.out.qm (.inr hL.out.qw)
              have hen := entry_one W9 it fb (.string nm) v h9i h9f
              have hgc : W9.cell? ⟨g, 0, none⟩ = some (.map (some b)) := (blk_cell h9g 0).trans rfl
              have hmu := update_first W9 b 0 nm v h9b
              obtain ⟨W10, hW10⟩ : ∃ W10, W10 = setO W9 b (.map #[{ key := .string nm, val := v, born := 0 }] (0 + 1)) := ⟨_, rfl⟩
              have HL2 : Hid (L3 w W10 g b fb it nm v 1) := Lib.hid (by
                rw [hW10]
                exact ⟨by rw [setO_far _ _ _ _ (Ne.symm HNE.out.2.1)]; exact h9i, by rw [setO_far _ _ _ _ (Ne.symm HNE.out.2.2.1)]; exact h9f, fun h => absurd h (by decide), by rw [setO_far _ _ _ _ HNE.out.2.2.2.2]; exact h9g, mod_setO h9m (.inl rfl), hL.out.qw⟩)
              rw [← hW9] at hnx
              rw [← hW10] at hmu
              clear hW9 hW10 h9i h9f h9b h9g h9m
              go_wp2
              go_roundg (gk - 1)
              case measure => omega
              case rel => exact ⟨1, by omega, HL2.out⟩
            · have hnx := fun ty => next_end wr it fb (.string nm) v ty hL.out.qi hL.out.qf
              have hl1 := len_map wr fb 1 #[{ key := .string nm, val := v, born := 0 }] 3 hL.out.qf
              go_wp2
              go_ret2
              exact ⟨rfl, hL.out.qm⟩
end Go.Proofs.YtbpmgaaipkenkaaDoor
end
section
namespace Go.Proofs.YtbpmgaaipkenkaaDoor
open Go Go.RowKit Go.Proofs.YtbpmgaaipkenkaaDoorW.PrintWords Go.Proofs.YtbpmgaaipkenkaaDoorW.PrintLast Go.Proofs.YtbpmgaaipkenkaaDoorW.PrintMore
set_option linter.unusedVariables false
set_option linter.unusedSimpArgs false
theorem add64_run (x y : Int) (hx : 0 ≤ x) (hy : 0 ≤ y) (hx1 : x < 18446744073709551616) (hy1 : y < 18446744073709551616) (W : World) :
    (callFunc 37 #[.int .u64 x, .int .u64 y, .int .u64 0]).run Tryd.prog W = .ok (.value (.tuple #[.int .u64 ((x + y) % 18446744073709551616), .int .u64 ((x + y) / 18446744073709551616)])) W := by
  rw [run_callFunc_extern Tryd.func37 (by kernel_rfl) (by kernel_rfl) (by kernel_rfl) (e := add64Entry) (by kernel_rfl), run_add64 x y 0 (by omega) (by omega) (by omega) (by omega)]
  simp only [Result.andThen, Int.add_zero]
def plusF (a b : Int) : Int := if 18446744073709551615 < a + b then 18446744073709551615 else a + b
theorem plus_calls (a b : Int) (w : World) (ha : 0 ≤ a) (hb : 0 ≤ b) (ha1 : a < 18446744073709551616) (hb1 : b < 18446744073709551616) :
    Calls Tryd.prog 12 #[.int .u64 a, .int .u64 b] w fun e w' => e = .returned (.int .u64 (plusF a b)) ∧ Drawn0 w w' := by
  obtain ⟨s, hs⟩ : ∃ s, s = (a + b) % 18446744073709551616 := ⟨_, rfl⟩
  obtain ⟨c, hc⟩ : ∃ c, c = (a + b) / 18446744073709551616 := ⟨_, rfl⟩
  have hr := add64_run a b ha hb ha1 hb1
  rw [← hs, ← hc] at hr
  by_cases h : 18446744073709551615 < a + b
  · have e1 : plusF a b = 18446744073709551615 := by unfold plusF; rw [if_pos h]
    have h0 : decide (0 < c) = true := decide_eq_true (by omega)
    rw [e1]
    clear hs hc h e1
    go_enter Tryd.func12, Tryd.ntmps12
    go_wp2
    go_ret
    exact ⟨rfl, by repeat (first | exact Drawn0.refl _ | apply Drawn0.step)⟩
  · have e1 : plusF a b = s := by unfold plusF; rw [if_neg h]; omega
    have h0 : decide (0 < c) = false := decide_eq_false (by omega)
    rw [e1]
    clear hs hc h e1
    go_enter Tryd.func12, Tryd.ntmps12
    go_wp2
    go_ret
    exact ⟨rfl, by repeat (first | exact Drawn0.refl _ | apply Drawn0.step)⟩
end Go.Proofs.YtbpmgaaipkenkaaDoor
end
section
namespace Go.Proofs.YtbpmgaaipkenkaaDoor.PMD
open Go.RowKit Go.Proofs.YtbpmgaaipkenkaaDoorW.PrintWords Go.Proofs.YtbpmgaaipkenkaaDoorW.PrintLast Go.Proofs.YtbpmgaaipkenkaaDoorW.PrintMore
attribute [local go_sem] max2_int min2_int max_two min_two max_three min_three max_four min_four
set_option linter.unusedVariables false
set_option linter.unusedSimpArgs false
def errW : Option Int → Value
 | none => .nilIface
 | some c => .iface 0 (.int .i64 c)
theorem errW_none : errW none = .nilIface := rfl
theorem errW_some (c : Int) : errW (some c) = .iface 0 (.int .i64 c) := rfl
end Go.Proofs.YtbpmgaaipkenkaaDoor.PMD
end
