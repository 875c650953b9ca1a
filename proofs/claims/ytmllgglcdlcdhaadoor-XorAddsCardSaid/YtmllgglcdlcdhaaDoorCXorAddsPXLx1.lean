import Derived.Test.YtmllgglcdlcdhaaDoorCXorAddsWWords
import Derived.Laws.StructEq
import Derived.Test.YtmllgglcdlcdhaaDoorProg
import Derived.Below
import Derived.Deep.Draws
import Derived.Deep.AppendLies
import Derived.Maps.AppendAt
import Derived.OwnWalk
import Derived.Laws.BytesArg
import Derived.Laws.MakeOwn
import Derived.Laws.OwnMore
import Derived.Deep.OwnRows
import Derived.Tactics
import Derived.Lib.ConvBytes
import Derived.Laws.Slices
import Derived.WalkKit
import Derived.KernelRfl
import Derived.RowKit3
import Derived.Deep.LoopGhost
import Derived.Deep.QuietTactic
import Derived.BigQuiet
import Derived.WideLaws
import Derived.Deep.DeepCutAuto
import Derived.Deep.CutBlock
import Derived.Deep.RegionHeld3
import Derived.Laws.Rows
import Derived.Lib.AppendStr
import Derived.ArgAppend
import Derived.Laws.IdiomCopy
import Derived.OrdersHeld
import Derived.Laws.BitsLemmas
import Derived.RowKit
import Derived.Test.YtmllgglcdlcdhaaDoorCXorAddsQ
import Derived.Test.YtmllgglcdlcdhaaDoorCXorAddsY8
import Derived.Test.YtmllgglcdlcdhaaDoorCXorAddsHC
import Derived.Lib.TrailingZeros
import Derived.Shelf.Spec.TrailingZeros
import Derived.Test.YtmllgglcdlcdhaaDoorCXorAddsYE
import Derived.Test.YtmllgglcdlcdhaaDoorCXorAddsYA
import Derived.Test.YtmllgglcdlcdhaaDoorCXorAddsY5
import Derived.Test.YtmllgglcdlcdhaaDoorCXorAddsYI
import Derived.Lib.ValidLaws
namespace Go.Proofs.YtmllgglcdlcdhaaDoor.Bq
end Go.Proofs.YtmllgglcdlcdhaaDoor.Bq
section
namespace Go.Proofs.YtmllgglcdlcdhaaDoorW.PrintWords
open Go.RowKit
section
variable {P : Program} {d : Nat} {xs ys : Array Value} {f : Field} {fs : List Field} {a b : Value} {r s : Bool} {w : World}
theorem eqf_last (hn : (f.name == "_") = false) (ha : (part f.type xs f.offset).run P w = .ok a w) (hb : (part f.type ys f.offset).run P w = .ok b w) (he : (Op.equalIn d f.type a b).run P w = .ok r w) : (Op.eqFields d xs ys [f]).run P w = .ok r w := by
  have hn' : f.name ≠ "_" := by simpa using hn
  simp only [Op.eqFields, if_pos hn', Sem.run_bind, ha, hb, he, Result.andThen_ok]
  cases r <;> simp
theorem eqf_cons (hn : (f.name == "_") = false) (ha : (part f.type xs f.offset).run P w = .ok a w) (hb : (part f.type ys f.offset).run P w = .ok b w) (he : (Op.equalIn d f.type a b).run P w = .ok r w) (hr : (Op.eqFields d xs ys fs).run P w = .ok s w) : (Op.eqFields d xs ys (f :: fs)).run P w = .ok (r && s) w := by
  have hn' : f.name ≠ "_" := by simpa using hn
  rw [Op.eqFields]
  simp only [if_pos hn', Sem.run_bind, ha, hb, he, Result.andThen_ok]
  cases r
  · simp
  · simpa using hr
theorem eqA_of {t : TypeId} {fs : Array Field} (hu : P.underlying t = some (.struct fs)) (hp : P.stoodInHeld t = false) (h : (Op.eqFields d xs ys fs.toList).run P w = .ok r w) : (Op.equalIn (d + 1) t (.agg xs) (.agg ys)).run P w = .ok r w := by
  have hf : P.fieldsOf t = fs := by simp [Program.fieldsOf, hu]
  rw [run_equalIn_struct (P := P) w d t xs ys (by rw [hf]; exact hu) hp, hf]
  exact h
end
end Go.Proofs.YtmllgglcdlcdhaaDoorW.PrintWords
end
section
namespace Go.Proofs.YtmllgglcdlcdhaaDoorW.PrintWords
theorem Reps.one {α : Type} {R : α → List Value → Prop} {ps : List α} {cs : List Value} {p : α} {v : Value} (hp : R p [v]) (h : Reps R 1 ps cs) : Reps R 1 (p :: ps) (v :: cs) := by
  refine ⟨by simp [h.1], fun j q hq => ?_⟩
  cases j with
  | zero =>
    simp only [List.getElem?_cons_zero, Option.some.injEq] at hq
    subst hq
    simpa using hp
  | succ j =>
    simp only [List.getElem?_cons_succ] at hq
    have h1 := h.2 j q hq
    simpa [Nat.mul_one] using h1
theorem Reps.front {α : Type} {R : α → List Value → Prop} {size : Nat} {ps : List α} {cs c all : List Value} {p : α} (hp : R p c) (hc : c.length = size) (h : Reps R size ps cs) (ha : c ++ cs = all) : Reps R size (p :: ps) all := by
  subst ha
  refine ⟨by rw [List.length_append, hc, h.1, List.length_cons, Nat.succ_mul, Nat.add_comm], fun j q hq => ?_⟩
  cases j with
  | zero =>
    simp only [List.getElem?_cons_zero, Option.some.injEq] at hq
    subst hq
    rw [Nat.zero_mul, List.drop_zero, List.take_append_of_le_length (by omega), List.take_of_length_le (by omega)]
    exact hp
  | succ j =>
    simp only [List.getElem?_cons_succ] at hq
    have h1 := h.2 j q hq
    rw [Nat.succ_mul, List.drop_append, List.drop_of_length_le (by rw [hc]; exact Nat.le_add_left _ _), List.nil_append, hc, Nat.add_sub_cancel]
    exact h1
theorem Reps.c2 {α : Type} {R : α → List Value → Prop} {ps : List α} {cs : List Value} {p : α} {va vb : Value} (hp : R p [va, vb]) (h : Reps R 2 ps cs) : Reps R 2 (p :: ps) (va :: vb :: cs) := Reps.front hp rfl h rfl
theorem Reps.c3 {α : Type} {R : α → List Value → Prop} {ps : List α} {cs : List Value} {p : α} {va vb vc : Value} (hp : R p [va, vb, vc]) (h : Reps R 3 ps cs) : Reps R 3 (p :: ps) (va :: vb :: vc :: cs) := Reps.front hp rfl h rfl
theorem Reps.c4 {α : Type} {R : α → List Value → Prop} {ps : List α} {cs : List Value} {p : α} {va vb vc vd : Value} (hp : R p [va, vb, vc, vd]) (h : Reps R 4 ps cs) : Reps R 4 (p :: ps) (va :: vb :: vc :: vd :: cs) := Reps.front hp rfl h rfl
theorem Reps.c5 {α : Type} {R : α → List Value → Prop} {ps : List α} {cs : List Value} {p : α} {va vb vc vd ve : Value} (hp : R p [va, vb, vc, vd, ve]) (h : Reps R 5 ps cs) : Reps R 5 (p :: ps) (va :: vb :: vc :: vd :: ve :: cs) := Reps.front hp rfl h rfl
theorem Reps.c6 {α : Type} {R : α → List Value → Prop} {ps : List α} {cs : List Value} {p : α} {va vb vc vd ve vf : Value} (hp : R p [va, vb, vc, vd, ve, vf]) (h : Reps R 6 ps cs) : Reps R 6 (p :: ps) (va :: vb :: vc :: vd :: ve :: vf :: cs) := Reps.front hp rfl h rfl
theorem Reps.c7 {α : Type} {R : α → List Value → Prop} {ps : List α} {cs : List Value} {p : α} {va vb vc vd ve vf vg : Value} (hp : R p [va, vb, vc, vd, ve, vf, vg]) (h : Reps R 7 ps cs) : Reps R 7 (p :: ps) (va :: vb :: vc :: vd :: ve :: vf :: vg :: cs) := Reps.front hp rfl h rfl
theorem Reps.c8 {α : Type} {R : α → List Value → Prop} {ps : List α} {cs : List Value} {p : α} {va vb vc vd ve vf vg vh : Value} (hp : R p [va, vb, vc, vd, ve, vf, vg, vh]) (h : Reps R 8 ps cs) : Reps R 8 (p :: ps) (va :: vb :: vc :: vd :: ve :: vf :: vg :: vh :: cs) := Reps.front hp rfl h rfl
theorem Reps.c9 {α : Type} {R : α → List Value → Prop} {ps : List α} {cs : List Value} {p : α} {va vb vc vd ve vf vg vh vi : Value} (hp : R p [va, vb, vc, vd, ve, vf, vg, vh, vi]) (h : Reps R 9 ps cs) : Reps R 9 (p :: ps) (va :: vb :: vc :: vd :: ve :: vf :: vg :: vh :: vi :: cs) := Reps.front hp rfl h rfl
theorem Reps.c10 {α : Type} {R : α → List Value → Prop} {ps : List α} {cs : List Value} {p : α} {va vb vc vd ve vf vg vh vi vj : Value} (hp : R p [va, vb, vc, vd, ve, vf, vg, vh, vi, vj]) (h : Reps R 10 ps cs) : Reps R 10 (p :: ps) (va :: vb :: vc :: vd :: ve :: vf :: vg :: vh :: vi :: vj :: cs) := Reps.front hp rfl h rfl
end Go.Proofs.YtmllgglcdlcdhaaDoorW.PrintWords
end
section
namespace Go.Proofs.YtmllgglcdlcdhaaDoorW.PrintWords
open Go.RowKit
section
variable {P : Program} {ops : Array Oper} {rest : List Oper} {o : Oper} {a : Act} {Q : Exit → Act → World → Prop} {W : World}
theorem gate_guard (hw : Region.wanted o (yielded ops a.tmps) = true) (h : wpList P ops Q ({ o with guard := none } :: rest) a W) : wpList P ops Q (o :: rest) a W := by
  have h1 : Region.wanted { o with guard := none } (yielded ops a.tmps) = true := rfl
  unfold wpList at h ⊢
  rw [if_pos h1] at h
  rw [if_pos hw]
  exact h
end
end Go.Proofs.YtmllgglcdlcdhaaDoorW.PrintWords
end
section
namespace Go.Proofs.YtmllgglcdlcdhaaDoor
theorem y1_ {p : Prop} (h : p := by repeat (first | (with_reducible first | exact HB.out | apply below_alloc | apply pw_below_drewN | apply below_drew1) | exact HB.out)) : p := h
theorem y2_ {p : Prop} (h : p := by (with_reducible repeat (first | apply Kd.R_alloc | apply Kd.R_drewN | apply Kd.R_drew)); exact HO104.out) : p := h
theorem y3_ {p : Prop} (h : p := by (with_reducible repeat (first | apply Kd.R_alloc | apply Kd.R_drewN | apply Kd.R_drew)); exact HO107.out) : p := h
theorem y4_ {p : Prop} (h : p := by (try simp only [List.map_toArray, List.map_cons, List.map_nil]); first | done | rfl | (simp only [List.length_drop, List.length_take]; rfl)) : p := h
theorem y5_ {p : Prop} (h : p := by (with_reducible repeat (first | apply Kd.R_alloc | apply Kd.R_drewN | apply Kd.R_drew)); exact HO111.out) : p := h
theorem y6_ {p : Prop} (h : p := by (with_reducible repeat (first | apply Kd.R_alloc | apply Kd.R_drewN | apply Kd.R_drew)); exact HO115.out) : p := h
theorem y7_ {p : Prop} (h : p := by (with_reducible repeat (first | apply Kd.R_alloc | apply Kd.R_drewN | apply Kd.R_drew)); exact HO118.out) : p := h
theorem y8_ {p : Prop} (h : p := by first | rfl | (simp [errW_none, errW_some] <;> rfl) | (simp [*, errW_none, errW_some] <;> rfl)) : p := h
end Go.Proofs.YtmllgglcdlcdhaaDoor
end
section
namespace Go.Proofs.YtmllgglcdlcdhaaDoor.PXL
open Go.RowKit Go.Proofs.YtmllgglcdlcdhaaDoorW.PrintWords Go.Proofs.YtmllgglcdlcdhaaDoorW.PrintLast Go.Proofs.YtmllgglcdlcdhaaDoorW.PrintMore
attribute [local go_sem] max2_int min2_int max_two min_two max_three min_three max_four min_four
set_option linter.unusedVariables false
set_option linter.unusedSimpArgs false
def errW : Option Int → Value
 | none => .nilIface
 | some c => .iface 0 (.int .i64 c)
theorem errW_none : errW none = .nilIface := rfl
theorem errW_some (c : Int) : errW (some c) = .iface 0 (.int .i64 c) := rfl
structure S39 where
 f0 : Int
 f1 : Int
def z39 : S39 := ⟨(0 : Int), (0 : Int)⟩
def k39 : Kd S39 := Kd.iso (Kd.pair (Kd.int .i64) (Kd.int .u64)) (fun x : S39 => (x.f0, x.f1))
theorem k39_open {w : World} {x : S39} {cs : List Value} (h : k39.K w x cs) : cs = [.int .i64 x.f0, .int .u64 x.f1] := by
 obtain ⟨_, _, rfl, rfl, rfl⟩ := h
 exact rfl
theorem k39_mkM (w : World) (base : Nat) (ok : Nat → Prop) (x : S39)  : k39.M w base ok x [.int .i64 x.f0, .int .u64 x.f1] := ⟨[.int .i64 x.f0], [.int .u64 x.f1], rfl, rfl, rfl⟩
def rd_T39 (xs : List S39) (i : Int) : S39 := xs.getD i.toNat z39
theorem at_T39 {w : World} {A : Option Addr} {n : Nat} {xs : List S39} (h : Kd.C k39 w A n xs) (i : Int) (h0 : 0 ≤ i) (h1 : i < n) : ∃ ad , A = some ad ∧ w.cell? (ad.add (i.toNat * 2)) = some (.int .i64 (rd_T39 xs i).f0) ∧ w.cell? ⟨(ad.add (i.toNat * 2)).block, (ad.add (i.toNat * 2)).off + 1, none⟩ = some (.int .u64 (rd_T39 xs i).f1) := by
 obtain ⟨ad, c, e, _, hK, hc0⟩ := Kd.C_get h z39 i h0 h1
 have hc : ∀ j u, c[j]? = some u → w.cell? (ad.add (i.toNat * 2 + j)) = some u := hc0
 obtain rfl := k39_open hK
 exact ⟨ad, e, hc 0 _ rfl, by rw [← add_field _ _ 1 (by omega)]; exact hc 1 _ rfl⟩
end Go.Proofs.YtmllgglcdlcdhaaDoor.PXL
end
section
namespace Go.Proofs.YtmllgglcdlcdhaaDoor.PXL
open Go Go.RowKit Go.Proofs.YtmllgglcdlcdhaaDoor Go.Proofs.YtmllgglcdlcdhaaDoorW.PrintWords Go.Proofs.YtmllgglcdlcdhaaDoorW.PrintLast Go.Proofs.YtmllgglcdlcdhaaDoorW.PrintMore Bq Xs
set_option linter.unusedVariables false
set_option maxRecDepth 100000
theorem info_smp : (Tryd.prog.info? 39).map (fun i => (i.zero, i.size, i.bytes)) = some (some (.agg #[.int .i64 0, .int .u64 0]), 2, 16) := by kernel_rfl
def smpOkB (x : S39) : Bool := decide ((-9223372036854775808 ≤ x.f0 ∧ x.f0 ≤ 9223372036854775807) ∧ 0 ≤ x.f1 ∧ x.f1 < 18446744073709551616)
def smps (l : List S39) : List (Int × Nat) := l.map fun x => (x.f0, x.f1.toNat)
def smpB (l : List (Int × Nat)) : List S39 := l.map fun x => ⟨x.1, (x.2 : Nat)⟩
def getS (l : List Int) : List S39 × Int := match getL l with
  | .ok l => (smpB l, 0)
  | .error e => ([], e)
theorem smps_length (l : List S39) : (smps l).length = l.length := List.length_map _
theorem smpB_length (l : List (Int × Nat)) : (smpB l).length = l.length := List.length_map _
theorem smps_smpB (l : List (Int × Nat)) : smps (smpB l) = l := by
  unfold smps smpB
  rw [List.map_map]
  refine (List.map_congr_left (g := id) fun x _ => ?_).trans (List.map_id _)
  show (x.1, ((x.2 : Nat) : Int).toNat) = x
  rw [Int.toNat_natCast]
theorem smps_ok (l : List S39) (h : l.all smpOkB = true) : ∀ x ∈ smps l, SmpOk x := by
  intro x hx
  obtain ⟨y, hy, rfl⟩ := List.mem_map.1 hx
  have h1 := of_decide_eq_true (List.all_eq_true.1 h y hy)
  exact ⟨h1.1, by show y.f1.toNat < 2 ^ 64; omega⟩
theorem smpB_ok (l : List (Int × Nat)) (h : ∀ x ∈ l, SmpOk x) : (smpB l).all smpOkB = true := by
  refine List.all_eq_true.2 fun x hx => ?_
  obtain ⟨y, hy, rfl⟩ := List.mem_map.1 hx
  have h1 := h y hy
  exact decide_eq_true ⟨h1.1, by show (0 : Int) ≤ (y.2 : Nat); omega, by show ((y.2 : Nat) : Int) < _; have := h1.2; omega⟩
theorem smpRow_of {w : World} {A : Option Addr} {l : List S39} (h : Kd.C k39 w A l.length l) (hb : ∀ x ∈ l, 0 ≤ x.f1) : SmpRow w A (smps l) := by
  intro i hi
  have hil : i < l.length := by rwa [smps_length] at hi
  obtain ⟨ad, e, h1, h2⟩ := at_T39 h (i : Int) (by omega) (by omega)
  rw [Int.toNat_natCast] at h1 h2
  have hr : rd_T39 l (i : Int) = l[i] := by unfold rd_T39; rw [Int.toNat_natCast, List.getD_eq_getElem?_getD, List.getElem?_eq_getElem hil]; rfl
  have hx : (smps l).getD i (0, 0) = (l[i].f0, l[i].f1.toNat) := by unfold smps; rw [List.getD_eq_getElem?_getD, List.getElem?_map, List.getElem?_eq_getElem hil]; rfl
  have h0 := hb _ (List.getElem_mem hil)
  rw [hr] at h1 h2
  rw [add_next_cell] at h2
  refine ⟨ad, e, ?_, ?_⟩
  · rw [hx]; exact h1
  · rw [hx, h2]
    show some (Value.int .u64 _) = some (Value.int .u64 ((l[i].f1.toNat : Nat) : Int))
    rw [Int.toNat_of_nonneg h0]
theorem all_f1 {l : List S39} (h : l.all smpOkB = true) : ∀ x ∈ l, 0 ≤ x.f1 := fun x hx => (of_decide_eq_true (List.all_eq_true.1 h x hx)).2.1
end Go.Proofs.YtmllgglcdlcdhaaDoor.PXL
end
section
namespace Go.Proofs.YtmllgglcdlcdhaaDoor
open Go Go.RowKit
set_option linter.unusedVariables false
def Tab (w : World) : Prop := TabAt 0 Lib.deBruijn64tab w
theorem Tab_below {w w1 : World} (h : Tab w) (hb : Below w.heap.size w w1) : Tab w1 := fun i hi => (hb.cell (World.block_lt_of_cell? w _ (h i hi))).trans (h i hi)
end Go.Proofs.YtmllgglcdlcdhaaDoor
end
section
namespace Go.Proofs.YtmllgglcdlcdhaaDoor.PXL
open Go Go.RowKit Go.Proofs.YtmllgglcdlcdhaaDoor Go.Proofs.YtmllgglcdlcdhaaDoorW.PrintWords Go.Proofs.YtmllgglcdlcdhaaDoorW.PrintMore Go.Proofs.YtmllgglcdlcdhaaDoorW.PrintLast Bq Xs Go.Proofs.YtmllgglcdlcdhaaDoor.Pu
set_option linter.unusedVariables false
set_option maxRecDepth 100000
set_option linter.unusedSimpArgs false
attribute [local go_sem ↓] Go.wp_at_zero Go.wp_at_succ
set_option maxHeartbeats 2000000 in
theorem sequal_calls (w : World) (A B : Option Addr) (ca cb : Nat) (xs ys : List Int) (hA : (Kd.int .u8).C w A xs.length xs) (hB : (Kd.int .u8).C w B ys.length ys) (hs : xs.length ≤ 1000000000000) (ht : ys.length ≤ 1000000000000) :
    Calls Tryd.prog 34 #[.slice A xs.length ca, .slice B ys.length cb] w fun e w' => e = .returned (.bool (decide (xs = ys))) ∧ ∃ n, w' = w.drewN n := by
  have HA := Lib.hid hA
  have HB := Lib.hid hB
  clear hA hB
  by_cases hl : xs.length = ys.length
  · have hne : ((xs.length : Int) != (ys.length : Int)) = false := by simp [hl]
    have HL := Lib.hid hl
    go_enter Tryd.func34, Tryd.ntmps34
    go_wp2
    go_loopg [13] xs.length (fun kq s13 wr => ∃ (k m : Nat), wr = w.drewN m ∧ k + kq = xs.length ∧ s13 = .int .i64 k ∧ Hid (xs.take k = ys.take k))
    case atStart => exact ⟨0, 0, rfl, by omega, rfl, rfl⟩
    case round =>
      obtain ⟨k, m, rfl, hk, rfl, htk⟩ := hrel
      by_cases hlt : k < xs.length
      · obtain ⟨ad, hAa, hcell⟩ := C_at_int HA.out k hlt
        obtain ⟨bd, hBb, hcelb⟩ := C_at_int HB.out k (by rw [← HL.out]; exact hlt)
        subst hAa
        subst hBb
        have h2 : k < ys.length := by rw [← HL.out]; exact hlt
        obtain ⟨x, hx⟩ : ∃ x, x = xs.getD k 0 := ⟨_, rfl⟩
        obtain ⟨y, hy⟩ : ∃ y, y = ys.getD k 0 := ⟨_, rfl⟩
        rw [← hx] at hcell
        rw [← hy] at hcelb
        have HX := Lib.hid hx
        have HY := Lib.hid hy
        clear hx hy
        by_cases he : x = y
        · have HE := Lib.hid he
          have hq : (x != y) = false := by simp [he]
          clear he
          go_wp2
          go_quiet (fail)
          go_wp2
          go_roundg (gk - 1)
          case measure => omega
          case rel => exact ⟨k + 1, _, rfl, by omega, by go_num, take_next_eq hlt h2 htk.out (by rw [← HX.out, ← HY.out, HE.out])⟩
        · have HE := Lib.hid he
          have hq : (x != y) = true := by simp [he]
          clear he
          go_wp2
          go_quiet (fail)
          go_wp2
          go_ret
          refine ⟨?_, _, World.drewN_drewN _ _ _⟩
          rw [decide_eq_false (fun h => HE.out (by rw [HX.out, HY.out, h]))]
          rfl
      · have hge : (ys.length : Int) ≤ (k : Int) := by omega
        go_wp2
        go_ret
        refine ⟨?_, _, rfl⟩
        have : k = xs.length := by omega
        subst this
        rw [decide_eq_true (eq_take HL.out htk.out)]
        rfl
  · have hne : ((xs.length : Int) != (ys.length : Int)) = true := by simp; omega
    go_enter Tryd.func34, Tryd.ntmps34
    go_wp2
    go_ret
    exact ⟨by rw [decide_eq_false (fun h => hl (by rw [h]))]; rfl, 0, rfl⟩
def joinR (L : List (Int × Nat)) : Except Int (List (Int × Nat) × List Bool) → Except Int (List (Int × Nat) × List Bool)
  | .error e => .error e
  | .ok (l, r) => .ok (L ++ l, r)
theorem allR_step {m : Nat} {s s' : St} {r r' : List Bool} {x : Int × Nat} {L : List (Int × Nat)} (h : nextR s r = .ok (x, s', r')) : joinR L (allR (m + 1) s r) = joinR (L ++ [x]) (allR m s' r') := by
  show joinR L (match nextR s r with
    | .error e => .error e
    | .ok (x, s, r) => match allR m s r with
      | .error e => .error e
      | .ok (l, r) => .ok (x :: l, r) : Except Int (List (Int × Nat) × List Bool)) = _
  rw [h]
  simp only
  cases allR m s' r' with
  | error e => rfl
  | ok v => obtain ⟨l, r2⟩ := v; show Except.ok (L ++ x :: l, r2) = Except.ok (L ++ [x] ++ l, r2); rw [List.append_assoc]; rfl
theorem allR_no {m : Nat} {s : St} {r : List Bool} {e : Int} {L : List (Int × Nat)} (h : nextR s r = .error e) : joinR L (allR (m + 1) s r) = .error e := by
  show joinR L (match nextR s r with
    | .error e => .error e
    | .ok (x, s, r) => match allR m s r with
      | .error e => .error e
      | .ok (l, r) => .ok (x :: l, r) : Except Int (List (Int × Nat) × List Bool)) = _
  rw [h]
  rfl
theorem joinR_nil (X : Except Int (List (Int × Nat) × List Bool)) : joinR [] X = X := by
  cases X with
  | error e => rfl
  | ok v => obtain ⟨l, r⟩ := v; rfl
theorem nextT_n (s : St) (σ : Sg) : (nextT s σ).2.1.n = s.n + 1 := by
  unfold nextT
  split
  · rename_i h; rw [h]
  · split
    · rename_i h; rw [h]
    · rfl
theorem nextT_w (s : St) (σ : Sg) (hw : s.w.lead + s.w.trail ≤ 63) : (nextT s σ).2.1.w.lead + (nextT s σ).2.1.w.trail ≤ 63 := by
  unfold nextT
  split
  · exact hw
  · split
    · exact (turnT_bd s.w _ hw).2
    · exact (turnT_bd s.w _ hw).2
theorem smpB_snoc (L : List (Int × Nat)) (x : Int × Nat) : smpB (L ++ [x]) = smpB L ++ [⟨x.1, (x.2 : Nat)⟩] := by unfold smpB; rw [List.map_append]; rfl
structure GetSt (w wr : World) (ok : Nat → Prop) (q g N1 n : Nat) (v : Value) (L : List (Int × Nat)) (s : St) (σ : Sg) (U : Except Int (List (Int × Nat) × List Bool)) : Prop where
  R : Kd.R k39 39 wr N1 (fun k => N1 ≤ k) v (smpB L)
  K : Rk wr ok q g σ s
  B : Below w.heap.size w wr
  okb : ∀ k, ok k → k < N1
  lN : N1 ≤ wr.heap.size
  wN : w.heap.size ≤ N1
  gw : w.heap.size ≤ g
  qN : q < N1
  lL : L.length ≤ 65536
  yes : ∀ r, σ = .ok r → L.length ≤ n ∧ s.n = L.length ∧ OkS s ∧ s.w.lead + s.w.trail ≤ 63 ∧ (s.n = 0 → s.step = 0) ∧ U = joinR L (allR (n - L.length) s r)
  no : ∀ e, σ = .error e → U = .error e
set_option maxHeartbeats 8000000 in
theorem xget_calls (w : World) (A : Option Addr) (c : Nat) (xs : List Int) (hC : (Kd.int .u8).C w A xs.length xs) (hb : Byts xs) (hl : xs.length ≤ 10000) (hT : Tab w) :
    Calls Tryd.prog 16 #[.slice A xs.length c] w fun e w' => ∃ v, e = .returned (.tuple #[v, .int .i64 (getS xs).2]) ∧ Kd.R k39 39 w' w.heap.size (fun _ => True) v (getS xs).1 ∧ Below w.heap.size w w' := by
  have HNR := Lib.hid (newReader_ok w A c xs (8 * xs.length) hC (by omega) (Nat.le_refl _) hb)
  have HC := Lib.hid (fun (W : World) (hW : Below w.heap.size w W) => Kd.C_below hC hW)
  have HT := Lib.hid (fun (W : World) (hW : Below w.heap.size w W) => Tab_below hT hW)
  have HBY := Lib.hid hb
  clear hC hb hT
  obtain ⟨bits, hbits⟩ : ∃ bits, bits = bitsOf xs (8 * xs.length) := ⟨_, rfl⟩
  have hbl : bits.length ≤ 80000 := by rw [hbits, bitsOf_length]; omega
  have HBL := Lib.hid hbl
  rw [← hbits] at HNR
  have hgl : getL xs = (match unpackR bits with
    | .error e => .error e
    | .ok (l, _) => if packL l = xs then .ok l else .error 8 : Except Int (List (Int × Nat))) := by rw [hbits]; rfl
  have HGL := Lib.hid hgl
  clear hbits hbl hgl
  have hun : unpackR bits = (match getX 16 bits with
    | .error e => .error e
    | .ok (n, r) => allR n st0 r : Except Int (List (Int × Nat) × List Bool)) := rfl
  obtain ⟨U, hU⟩ : ∃ U, U = unpackR bits := ⟨_, rfl⟩
  have HUO := Lib.hid (fun (l : List (Int × Nat)) (r : List Bool) (h : U = .ok (l, r)) => unpackR_ok (hU.symm.trans h))
  have hG16 := getT_lt 16 (.ok bits)
  have hst : ∀ (n : Nat) (σ : Sg), getT 16 (.ok bits) = (n, σ) → (∀ r, σ = .ok r → U = joinR [] (allR n st0 r)) ∧ (∀ e, σ = .error e → U = .error e) := by
    intro n σ h
    rw [hU, hun]
    cases hx : getX 16 bits with
    | error e =>
      rw [getT_no hx] at h
      injection h with h1 h2
      exact ⟨(fun r hr => by rw [← h2] at hr; cases hr), (fun e2 he => by rw [← h2] at he; injection he with he; rw [he])⟩
    | ok v =>
      obtain ⟨m, r1⟩ := v
      rw [getT_ok hx] at h
      injection h with h1 h2
      exact ⟨(fun r hr => by rw [← h2] at hr; injection hr with hr; rw [joinR_nil, hr, h1]), (fun e2 he => by rw [← h2] at he; cases he)⟩
  rw [← hU] at HGL
  clear hU hun
  have e8 : IntKind.i64.wrap (8 * (xs.length : Int)) = ((8 * xs.length : Nat) : Int) := by rw [IntWalk.i64_in _ (by omega)]; omega
  go_enter Tryd.func16, Tryd.ntmps16
  go_upto_region 5 with (go_at_call 31; go_loud (refine HNR.out.mono ?_); rintro e w1 ⟨g, rfl, hRd, hB1⟩; have HRD := Lib.hid hRd; have HB1 := Lib.hid hB1; clear hRd hB1)
  obtain ⟨q, hq⟩ : ∃ q, q = w1.heap.size := ⟨_, rfl⟩
  obtain ⟨W2, hW2⟩ : ∃ W2, W2 = w1.alloc (.cells #[.pointer (some ⟨g, 0, none⟩), .int .i64 0, .int .i64 0, .int .u64 0, .int .u64 0, .int .i64 0, .int .i64 0, .bool false, .int .i64 0] 68) := ⟨_, rfl⟩
  have hB2 : Below w1.heap.size w1 W2 := by rw [hW2]; exact below_alloc (Below.refl _ _) _
  have hs1 := HB1.out.size
  obtain ⟨gcs, hgb⟩ := HRD.out.blk
  have hgq : g < q := by rw [hq]; exact blk_lt hgb
  have hgw : w.heap.size ≤ g := by obtain ⟨_, _, _, _, h1, _⟩ := HRD.out; exact h1.okg
  obtain ⟨N1, hN1⟩ : ∃ N1, N1 = W2.heap.size := ⟨_, rfl⟩
  have hqN : q < N1 := by rw [hN1, hW2, World.size_alloc]; omega
  have hk2 : Rk W2 (fun k => k ≠ q ∧ k < N1) q g (.ok bits) st0 := by
    refine ⟨?_, fun r hr => ?_, fun h => h.1 rfl, (fun e h => by cases h), hgq⟩
    · rw [hW2, hq]; exact blk_new w1 _
    · injection hr with hr
      rw [← hr]
      exact (HRD.out.bound.kept (Mod.of_below hB2 (fun _ => False)) (fun _ _ _ => id)).mono (fun k hk => ⟨by have := hk.2; omega, by have := hk.2; omega⟩)
  have hBW : Below w.heap.size w W2 := HB1.out.trans (below_lower hB2 hs1)
  rw [← hW2, ← hq]
  have HG := Lib.hid (rkget W2 _ q g (.ok bits) st0 hk2 16 16 (fun _ _ => ⟨rfl, by decide⟩))
  have HBW := Lib.hid hBW
  have hN1w : w.heap.size ≤ N1 := by rw [hN1]; exact hBW.size
  have HN1 := Lib.hid hN1
  clear hW2 hq hB2 hs1 hgb hk2 hBW HRD HB1 hN1
  generalize getT 16 (.ok bits) = G at HG hst hG16
  obtain ⟨n, σ1⟩ := G
  simp only at HG hG16
  obtain ⟨hst1, hst2⟩ := hst n σ1 rfl
  have HST := Lib.hid (And.intro hst1 hst2)
  clear hst hst1 hst2
  have hn1 : IntKind.i64.wrap (n : Int) = (n : Int) := IntWalk.i64_in _ (by omega)
  go_wp2_with (go_at_call 32; go_loud (refine HG.out.mono ?_); rintro e w3 ⟨rfl, h3, m3⟩; have H3 := Lib.hid h3; have M3 := Lib.hid m3; clear h3 m3)
  have HS0 : Hid (GetSt w w3 (fun k => k ≠ q ∧ k < N1) q g N1 n (.slice none 0 0) [] st0 σ1 U) := Lib.hid
    ⟨Kd.R_nil _ _ _ _ _, H3.out, HBW.out.trans (M3.out.below HBW.out.size (fun k hk => by rcases hk with rfl | rfl <;> omega)), (fun k hk => hk.2), (by rw [HN1.out]; exact M3.out.size), hN1w, hgw, hqN, (by decide), (fun r hr => ⟨Nat.zero_le _, rfl, st0_ok, by decide, fun _ => rfl, HST.out.1 r hr⟩), HST.out.2⟩
  clear HG HST H3 M3 HBW hgq
  go_loopg [8] (n + 1) (fun kq s8 wr => ∃ (L : List (Int × Nat)) (s : St) (σ : Sg), ((∃ r, σ = .ok r) → L.length + kq = n + 1) ∧ Hid (GetSt w wr (fun k => k ≠ q ∧ k < N1) q g N1 n s8 L s σ U))
  case atStart => exact ⟨[], st0, σ1, (fun _ => by show 0 + (n + 1) = n + 1; omega), HS0.out⟩
  case round =>
    obtain ⟨L, s, σ, hkq, HS⟩ := hrel
    obtain ⟨Av, cv, hv8⟩ := Kd.R_slice HS.out.R
    subst hv8
    have hlL := HS.out.lL
    obtain ⟨m, hm⟩ : ∃ m, m = (smpB L).length := ⟨_, rfl⟩
    have hmL : m = L.length := by rw [hm, smpB_length]
    rw [← hm]
    have HM := Lib.hid hm
    have HML := Lib.hid hmL
    clear hm hmL
    cases σ with
    | error e =>
      have c8 : wr.cell? ⟨q, 8, none⟩ = some (.int .i64 e) := (blk_cell HS.out.K.blk 8).trans rfl
      have he : e ≠ 0 := HS.out.K.good e rfl
      have be : (e == 0) = false := beq_false_of_ne he
      have hge : getS xs = ([], e) := by
        unfold getS
        rw [HGL.out, HS.out.no e rfl]
      have HGE := Lib.hid hge
      have c9 : wr.drew.cell? ⟨q, 8, none⟩ = some (.int .i64 e) := c8
      clear he hge hkq
      by_cases hlt : m < n
      · go_upto_region 10 with fail
        refine start_ (n := 6) (S := fun w' => w'.cell? ⟨q, 8, none⟩ = some (.int .i64 e)) (ds := []) #[false, false, false, false, false, false] (by kernel_rfl) rfl rfl (c9) (fun hHeld => ?_)
        refine pure_ (i := 0) (N := some 47) (v := ?_) (a' := ?_) #[true, false, false, false, false, false] rfl rfl (by kernel_rfl) (fun _ _ _ h => h) (Or.inl ⟨by rfl, ?_⟩) ?_ ?_
        rotate_left
        · intro w'
          go_simp
          with_reducible rfl
        rotate_left
        · simp only [Act.put, List.setIfInBounds_toArray, List.set_cons_zero, List.set_cons_succ, i64_w, i32_w]
          rfl
        refine pure_ (i := 1) (N := some 48) (v := ?_) (a' := ?_) #[true, true, false, false, false, false] rfl rfl (by kernel_rfl) (fun _ _ _ h => h) (Or.inl ⟨by rfl, ?_⟩) ?_ ?_
        rotate_left
        · intro w'
          go_simp
          with_reducible rfl
        rotate_left
        · simp only [Act.put, List.setIfInBounds_toArray, List.set_cons_zero, List.set_cons_succ, i64_w, i32_w]
          rfl
        refine pure_ (i := 2) (N := some 49) (v := ?_) (a' := ?_) #[true, true, true, false, false, false] rfl rfl (by kernel_rfl) (fun _ _ _ h => h) (Or.inl ⟨by rfl, ?_⟩) ?_ ?_
        rotate_left
        · intro w'
          go_simp
          with_reducible rfl
        rotate_left
        · simp only [Act.put, List.setIfInBounds_toArray, List.set_cons_zero, List.set_cons_succ, i64_w, i32_w]
          rfl
        refine pure_ (i := 4) (N := some 2) (v := ?_) (a' := ?_) #[true, true, true, false, true, false] rfl rfl (by kernel_rfl) (fun _ _ _ h => h) (Or.inl ⟨by rfl, ?_⟩) ?_ ?_
        rotate_left
        · intro w'
          go_simp
          with_reducible rfl
        rotate_left
        · simp only [Act.put, List.setIfInBounds_toArray, List.set_cons_zero, List.set_cons_succ, i64_w, i32_w]
          rfl
        refine take_ (i := 3) (N := some 50) (v := ?_) (a' := ?_) #[true, true, true, true, true, false] rfl rfl (by kernel_rfl) (fun _ _ _ h => h) (Or.inl ⟨by rfl, ?_⟩) hHeld ?_ ?_
        rotate_left
        · intro w' s0
          go_simp
          with_reducible rfl
        rotate_left
        · simp only [Act.put, List.setIfInBounds_toArray, List.set_cons_zero, List.set_cons_succ, i64_w, i32_w]
          rfl
        refine pure_ (i := 5) (N := some 3) (v := ?_) (a' := ?_) #[true, true, true, true, true, true] rfl rfl (by kernel_rfl) (fun _ _ _ h => h) (Or.inl ⟨by rfl, ?_⟩) ?_ ?_
        rotate_left
        · intro w'
          go_simp
          with_reducible rfl
        rotate_left
        · simp only [Act.put, List.setIfInBounds_toArray, List.set_cons_zero, List.set_cons_succ, i64_w, i32_w]
          rfl
        refine done_ (by kernel_rfl) ?_
        go_wp2
        go_ret2
        rw [HGE.out]
        exact ⟨_, rfl, Kd.R_nil _ _ _ _ _, HS.out.B.trans (pw_below_drewN (Below.refl _ _) 1)⟩
      · go_upto_region 10 with fail
        refine start_ (n := 6) (S := fun w' => w'.cell? ⟨q, 8, none⟩ = some (.int .i64 e)) (ds := []) #[false, false, false, false, false, false] (by kernel_rfl) rfl rfl (c9) (fun hHeld => ?_)
        refine pure_ (i := 0) (N := some 47) (v := ?_) (a' := ?_) #[true, false, false, false, false, false] rfl rfl (by kernel_rfl) (fun _ _ _ h => h) (Or.inl ⟨by rfl, ?_⟩) ?_ ?_
        rotate_left
        · intro w'
          go_simp
          with_reducible rfl
        rotate_left
        · simp only [Act.put, List.setIfInBounds_toArray, List.set_cons_zero, List.set_cons_succ, i64_w, i32_w]
          rfl
        refine pure_ (i := 1) (N := some 48) (v := ?_) (a' := ?_) #[true, true, false, false, false, false] rfl rfl (by kernel_rfl) (fun _ _ _ h => h) (Or.inl ⟨by rfl, ?_⟩) ?_ ?_
        rotate_left
        · intro w'
          go_simp
          with_reducible rfl
        rotate_left
        · simp only [Act.put, List.setIfInBounds_toArray, List.set_cons_zero, List.set_cons_succ, i64_w, i32_w]
          rfl
        refine pure_ (i := 2) (N := some 49) (v := ?_) (a' := ?_) #[true, true, true, false, false, false] rfl rfl (by kernel_rfl) (fun _ _ _ h => h) (Or.inl ⟨by rfl, ?_⟩) ?_ ?_
        rotate_left
        · intro w'
          go_simp
          with_reducible rfl
        rotate_left
        · simp only [Act.put, List.setIfInBounds_toArray, List.set_cons_zero, List.set_cons_succ, i64_w, i32_w]
          rfl
        refine pure_ (i := 4) (N := some 2) (v := ?_) (a' := ?_) #[true, true, true, false, true, false] rfl rfl (by kernel_rfl) (fun _ _ _ h => h) (Or.inl ⟨by rfl, ?_⟩) ?_ ?_
        rotate_left
        · intro w'
          go_simp
          with_reducible rfl
        rotate_left
        · simp only [Act.put, List.setIfInBounds_toArray, List.set_cons_zero, List.set_cons_succ, i64_w, i32_w]
          rfl
        refine take_ (i := 3) (N := some 50) (v := ?_) (a' := ?_) #[true, true, true, true, true, false] rfl rfl (by kernel_rfl) (fun _ _ _ h => h) (Or.inl ⟨by rfl, ?_⟩) hHeld ?_ ?_
        rotate_left
        · intro w' s0
          go_simp
          with_reducible rfl
        rotate_left
        · simp only [Act.put, List.setIfInBounds_toArray, List.set_cons_zero, List.set_cons_succ, i64_w, i32_w]
          rfl
        refine pure_ (i := 5) (N := some 3) (v := ?_) (a' := ?_) #[true, true, true, true, true, true] rfl rfl (by kernel_rfl) (fun _ _ _ h => h) (Or.inl ⟨by rfl, ?_⟩) ?_ ?_
        rotate_left
        · intro w'
          go_simp
          with_reducible rfl
        rotate_left
        · simp only [Act.put, List.setIfInBounds_toArray, List.set_cons_zero, List.set_cons_succ, i64_w, i32_w]
          rfl
        refine done_ (by kernel_rfl) ?_
        go_wp2
        go_ret2
        rw [HGE.out]
        exact ⟨_, rfl, Kd.R_nil _ _ _ _ _, HS.out.B.trans (pw_below_drewN (Below.refl _ _) 1)⟩
    | ok r =>
      obtain ⟨y1, y2, y3, y4, y5, y6⟩ := HS.out.yes r rfl
      have hk := hkq ⟨r, rfl⟩
      clear hkq
      have c8 : wr.cell? ⟨q, 8, none⟩ = some (.int .i64 0) := HS.out.K.e0
      have Y := Lib.hid (And.intro y3 (And.intro y4 (And.intro y5 y6)))
      have HNX := Lib.hid (rknext wr _ q g (.ok r) s HS.out.K y3.v y3.step y4 (by omega))
      clear y3 y4 y5 y6
      have hNn := nextT_n s (.ok r)
      have hNw := nextT_w s (.ok r) Y.out.2.1
      by_cases hlt : m < n
      · have hnx : (∀ x s' r', nextR s r = .ok (x, s', r') → nextT s (.ok r) = (x, s', .ok r')) ∧ (∀ e, nextR s r = .error e → (nextT s (.ok r)).2.2 = .error e) := ⟨fun x s' r' h => nextT_ok Y.out.2.2.1 h, fun e h => nextT_no h⟩
        generalize nextT s (.ok r) = X at HNX hNn hNw hnx
        obtain ⟨⟨t, v⟩, s', σ'⟩ := X
        simp only at HNX hNn hNw hnx
        have hmn := HML.out
        have hU1 : U = joinR L (allR ((n - L.length - 1) + 1) s r) := by rw [show n - L.length - 1 + 1 = n - L.length by omega]; exact Y.out.2.2.2
        have hyes : ∀ r', σ' = .ok r' → (L ++ [(t, v)]).length ≤ n ∧ s'.n = (L ++ [(t, v)]).length ∧ OkS s' ∧ s'.w.lead + s'.w.trail ≤ 63 ∧ (s'.n = 0 → s'.step = 0) ∧ U = joinR (L ++ [(t, v)]) (allR (n - (L ++ [(t, v)]).length) s' r') := by
          intro r' hr'
          have hl1 : (L ++ [(t, v)]).length = L.length + 1 := by rw [List.length_append, List.length_singleton]
          rw [hl1]
          cases hN : nextR s r with
          | error e => have := hnx.2 e hN; rw [hr'] at this; cases this
          | ok z =>
            obtain ⟨x0, s0, r0⟩ := z
            have h7 := hnx.1 x0 s0 r0 hN
            injection h7 with h7 h8
            injection h8 with h8 h9
            rw [hr'] at h9
            injection h9 with h9
            subst h7 h8 h9
            have h6 := (nextR_ok Y.out.1 hN).2.1
            exact ⟨by omega, by omega, h6, hNw, (fun h => by omega), by rw [hU1, allR_step hN, show n - L.length - 1 = n - (L.length + 1) by omega]⟩
        have hno : ∀ e, σ' = .error e → U = .error e := by
          intro e he
          cases hN : nextR s r with
          | error e2 => have := hnx.2 e2 hN; rw [he] at this; injection this with this; rw [hU1, allR_no hN, this]
          | ok z =>
            obtain ⟨x0, s0, r0⟩ := z
            have h7 := hnx.1 x0 s0 r0 hN
            injection h7 with h7 h8
            injection h8 with h8 h9
            rw [he] at h9
            cases h9
        have HYN := Lib.hid (And.intro hyes hno)
        clear hyes hno hU1 hnx hNw hNn Y hmn
        have hlN := HS.out.lN
        go_wp2_with (first
          | (go_at_call 33; refine HNX.out.mono ?_; rintro e w4 ⟨rfl, h4, m4⟩; have hR4 := Kd.R_step HS.out.R (fun k ho hk => m4.block k hk (fun h => by have := HS.out.qN; have := HS.out.K.lt; rcases h with h | h <;> omega)); have hs4 := m4.size; have H4 := Lib.hid h4; have M4 := Lib.hid m4; have HR4 := Lib.hid hR4; clear h4 m4 hR4)
          | (at_builtin; refine Kd.R_append k39 (w0 := w4) (W := w4) N1 rfl (.tmp 37) (.tmp 40) 22 39 (.agg #[.int .i64 0, .int .u64 0]) 16 rfl Tryd.underlying22 info_smp rfl (by decide) (by decide) _ (smpB L) (⟨t, (v : Nat)⟩ : S39) [.int .i64 t, .int .u64 (v : Nat)] (fun k => N1 ≤ k) (fun _ => False) (by rw [HM.out]; rfl) rfl (k39_mkM _ _ _ _) (fun _ h => h.elim) (fun k hk => Nat.le_trans hlN (Nat.le_trans hs4 hk)) HR4.out (Below.refl _ _) (Nat.le_trans hlN hs4) (by rw [← HM.out, HML.out]; omega) ?_; intro v5 w5 hR5 _ hg5 _; have HR5 := Lib.hid hR5; have HG5 := Lib.hid hg5; clear hR5 hg5))
        go_roundg (gk - 1)
        case measure => have := HML.out; omega
        case rel =>
          have hmn := HML.out
          have hR5 := HR5.out
          rw [show smpB L ++ [(⟨t, (v : Nat)⟩ : S39)] = smpB (L ++ [(t, v)]) from (smpB_snoc L (t, v)).symm] at hR5
          have hm5 : Mod (fun k => N1 ≤ k) w4 w5 := (Mod.refl _ w4).grown HG5.out (fun k hk => .inl (HR4.out.1 k hk))
          have hb4 : Below w.heap.size w w4 := HS.out.B.trans (M4.out.below HS.out.B.size (fun k hk => by have := HS.out.gw; have := HS.out.K.lt; rcases hk with rfl | rfl <;> omega))
          refine ⟨L ++ [(t, v)], s', σ', (fun _ => by rw [List.length_append, List.length_singleton]; omega), ⟨hR5, H4.out.kept hm5 (by have := HS.out.qN; omega) (fun k ho _ => by have := HS.out.okb k ho; omega), hb4.trans (hm5.below hb4.size (fun k hk => Nat.le_trans HS.out.wN hk)), HS.out.okb, Nat.le_trans hlN (Nat.le_trans hs4 hm5.size), HS.out.wN, HS.out.gw, HS.out.qN, (by rw [List.length_append, List.length_singleton]; omega), HYN.out.1, HYN.out.2⟩⟩
      · have hLn : L.length = n := by have := HML.out; omega
        have hUL : U = .ok (L, r) := by
          have h6 := Y.out.2.2.2
          rw [show n - L.length = 0 by omega] at h6
          rw [h6]
          show Except.ok (L ++ [], r) = _
          rw [List.append_nil]
        obtain ⟨u1, u2, u3⟩ := HUO.out L r hUL
        have hL50 : L.length ≤ 50000 := by have := HBL.out; omega
        have hgl : getL xs = if packL L = xs then .ok L else .error 8 := by rw [HGL.out, hUL]
        have hf1 : ∀ x ∈ smpB L, 0 ≤ x.f1 := all_f1 (smpB_ok L u2)
        have hrow := smpRow_of (Kd.R_reads' HS.out.R).2.2 hf1
        rw [smps_smpB] at hrow
        have HPK := Lib.hid (pack_calls wr Av cv L hrow u2 hL50 (HT.out wr HS.out.B))
        have hplen : (packL L).length ≤ 1000000000 := by
          have h1 := all_len L st0 st0_ok u2
          unfold packL packB
          rw [packI_length, List.length_append, nb_length]
          omega
        have HPL := Lib.hid hplen
        have HU2 := Lib.hid u2
        have HGLL := Lib.hid hgl
        clear hUL u1 u2 u3 hgl hf1 hrow hplen HNX hNn hNw Y
        by_cases heq : packL L = xs
        · have PKC : Hid (Calls Tryd.prog 28 #[.slice Av m cv] wr _) := Lib.hid (by rw [HML.out]; exact HPK.out)
          have HEQ := Lib.hid heq
          clear heq hLn hk y1 y2 hL50
          go_wp2_with (first
            | (go_at_call 28; go_loud (refine PKC.out.mono ?_); rintro e w5 ⟨v5, rfl, hR5, hB5⟩; obtain ⟨A5, c5, hv5⟩ := Kd.R_slice hR5; subst hv5; have HQ5 := Lib.hid (sequal_calls w5 A5 A c5 c (packL L) xs (Kd.R_reads' hR5).2.2 (HC.out w5 (HS.out.B.trans (below_lower hB5 HS.out.B.size))) (by have := HPL.out; omega) (by omega)); have HR5 := Lib.hid hR5; have HB5 := Lib.hid hB5; clear hR5 hB5)
            | (go_at_call 34; go_loud (refine HQ5.out.mono ?_); rintro e w' ⟨rfl, n5, rfl⟩; rw [decide_eq_true HEQ.out]))
          go_ret2
          have hge : getS xs = (smpB L, 0) := by unfold getS; rw [HGLL.out, if_pos HEQ.out]
          rw [hge]
          refine ⟨_, rfl, ?_, (HS.out.B.trans (below_lower HB5.out HS.out.B.size)).trans (pw_below_drewN (Below.refl _ _) _)⟩
          rw [HM.out]
          exact Kd.R_drewN (Kd.R_below (Kd.R_lower (Kd.R_mono HS.out.R (fun _ _ => trivial)) HS.out.wN) HB5.out) _
        · have PKC : Hid (Calls Tryd.prog 28 #[.slice Av m cv] wr _) := Lib.hid (by rw [HML.out]; exact HPK.out)
          have HEQ := Lib.hid heq
          clear heq hLn hk y1 y2 hL50
          go_wp2_with (first
            | (go_at_call 28; go_loud (refine PKC.out.mono ?_); rintro e w5 ⟨v5, rfl, hR5, hB5⟩; obtain ⟨A5, c5, hv5⟩ := Kd.R_slice hR5; subst hv5; have HQ5 := Lib.hid (sequal_calls w5 A5 A c5 c (packL L) xs (Kd.R_reads' hR5).2.2 (HC.out w5 (HS.out.B.trans (below_lower hB5 HS.out.B.size))) (by have := HPL.out; omega) (by omega)); have HR5 := Lib.hid hR5; have HB5 := Lib.hid hB5; clear hR5 hB5)
            | (go_at_call 34; go_loud (refine HQ5.out.mono ?_); rintro e w' ⟨rfl, n5, rfl⟩; rw [decide_eq_false HEQ.out]))
          go_ret2
          have hge : getS xs = ([], 8) := by unfold getS; rw [HGLL.out, if_neg HEQ.out]
          rw [hge]
          exact ⟨_, rfl, Kd.R_nil _ _ _ _ _, (HS.out.B.trans (below_lower HB5.out HS.out.B.size)).trans (pw_below_drewN (Below.refl _ _) _)⟩
end Go.Proofs.YtmllgglcdlcdhaaDoor.PXL
end
section
namespace Go.Proofs.YtmllgglcdlcdhaaDoor.PXL
open Go Go.RowKit Go.Proofs.YtmllgglcdlcdhaaDoor Go.Proofs.YtmllgglcdlcdhaaDoorW.PrintWords Go.Proofs.YtmllgglcdlcdhaaDoorW.PrintMore Go.Proofs.YtmllgglcdlcdhaaDoorW.PrintLast Bq Xs Go.Proofs.YtmllgglcdlcdhaaDoor.Pu
set_option linter.unusedVariables false
set_option maxRecDepth 100000
set_option linter.unusedSimpArgs false
attribute [local go_sem ↓] Go.wp_at_zero Go.wp_at_succ
end Go.Proofs.YtmllgglcdlcdhaaDoor.PXL
end
section
namespace Go.Proofs.YtmllgglcdlcdhaaDoor.Pu
open Go Go.RowKit Go.Proofs.YtmllgglcdlcdhaaDoorW.PrintWords Go.Proofs.YtmllgglcdlcdhaaDoorW.PrintLast Go.Proofs.YtmllgglcdlcdhaaDoorW.PrintMore
set_option linter.unusedVariables false
theorem w64 {x : Int} (h0 : -9223372036854775808 ≤ x) (h1 : x ≤ 9223372036854775807) : wrap64 x = x := by unfold wrap64; omega
theorem w32 {x : Int} (h0 : -2147483648 ≤ x) (h1 : x ≤ 2147483647) : wrap32 x = x := by unfold wrap32; omega
theorem wn {n : Nat} {x : Int} (h : x = (n : Int)) (hn : n ≤ 9223372036854775807) : wrap64 x = (n : Int) := by
  rw [h]
  exact w64 (by omega) (by omega)
theorem w1 (n : Nat) (h : n ≤ 9000000000000000000) : wrap64 ((n : Int) + 1) = ((n + 1 : Nat) : Int) := wn rfl (by omega)
theorem w2 (n : Nat) (h : n ≤ 9000000000000000000) : wrap64 (((n + 1 : Nat) : Int) + 1) = ((n + 2 : Nat) : Int) := wn (by omega) (by omega)
abbrev Str := List UInt8
def B (s : ByteArray) : Str := s.data.toList
theorem Ev.at {α : Type} {g : Nat → Option α} {r : α} (K : Nat) (h : ∀ k, K < k → g k = some r) : Ev g r := ⟨K + 1, fun k hk => h k (by omega)⟩
theorem Ev.add {α : Type} {g : Nat → Option α} {r : α} (h : Ev g r) : Ev (fun k => g (k + 1)) r := by
  obtain ⟨K, h⟩ := h
  exact ⟨K, fun k hk => h (k + 1) (by omega)⟩
end Go.Proofs.YtmllgglcdlcdhaaDoor.Pu
end
section
namespace Go.Proofs.YtmllgglcdlcdhaaDoor.PXL
open Go.RowKit Go.Proofs.YtmllgglcdlcdhaaDoorW.PrintWords Go.Proofs.YtmllgglcdlcdhaaDoorW.PrintLast Go.Proofs.YtmllgglcdlcdhaaDoorW.PrintMore
attribute [local go_sem] max2_int min2_int max_two min_two max_three min_three max_four min_four
set_option linter.unusedVariables false
set_option linter.unusedSimpArgs false
theorem eqA39 (d : Nat) (w : World) (x0 y0 : Int) (x1 y1 : Int) :
  (Op.equalIn (d + 2) 39 (.agg #[.int .i64 x0, .int .u64 x1]) (.agg #[.int .i64 y0, .int .u64 y1])).run Tryd.prog w = .ok (x0 == y0 && (x1 == y1)) w := by
 refine eqA_of Tryd.underlying39 (by kernel_rfl) ?_
 refine eqf_cons (by rfl) (by go_simp; rfl) (by go_simp; rfl) (by go_simp) ?_
 exact eqf_last (by rfl) (by go_simp; rfl) (by go_simp; rfl) (by go_simp)
end Go.Proofs.YtmllgglcdlcdhaaDoor.PXL
end
