import Derived.Test.YtbpmgaaipkenkaaDoorCLimitSeriesM15
import Derived.Test.YtbpmgaaipkenkaaDoorCLimitSeriesG2
import Derived.Lib.ConvBytes
import Derived.Laws.Externs
import Derived.WalkKit
import Derived.Lib.Hide
import Derived.Test.YtbpmgaaipkenkaaDoorProg
import Derived.Below
import Derived.Deep.Draws
import Derived.Deep.AppendLies
import Derived.Maps.AppendAt
import Derived.OwnWalk
import Derived.Laws.BytesArg
import Derived.Laws.MakeOwn
import Derived.Laws.OwnMore
import Derived.Deep.OwnRows
import Derived.Tactics
import Derived.Laws.Slices
import Derived.KernelRfl
import Derived.RowKit3
import Derived.Deep.LoopGhost
import Derived.Deep.QuietTactic
import Derived.BigQuiet
import Derived.WideLaws
import Derived.Deep.DeepCutAuto
import Derived.Deep.CutBlock
import Derived.Deep.RegionHeld3
import Derived.Laws.Rows
import Derived.Lib.AppendStr
import Derived.ArgAppend
import Derived.Laws.IdiomCopy
import Derived.OrdersHeld
import Derived.Laws.BitsLemmas
import Derived.RowKit
import Derived.Test.YtbpmgaaipkenkaaDoorCLimitSeriesWWords
import Derived.Test.YtbpmgaaipkenkaaDoorCLimitSeriesPMCx0
section
namespace Go.Proofs.YtbpmgaaipkenkaaDoor
open Go Go.RowKit Go.Proofs.YtbpmgaaipkenkaaDoorW.PrintWords Go.Proofs.YtbpmgaaipkenkaaDoorW.PrintLast Go.Proofs.YtbpmgaaipkenkaaDoorW.PrintMore
set_option linter.unusedVariables false
set_option linter.unusedSimpArgs false
attribute [local go_sem ↓] Go.wp_at_zero Go.wp_at_succ
structure TR (w : World) (q : SL × LS) : Prop where
  rd : Rd w q
  ty : q.2 ≠ [] → ∃ (ad : Addr) (cells : Array Value), q.1.1 = some ad ∧ w.heap[ad.block]? = some (.cells cells 66 (0, 0))
theorem TR.move {w w' : World} {q : SL × LS} (h : TR w q) (hm : ∀ (k : Nat) (cells : Array Value), w.heap[k]? = some (.cells cells 66 (0, 0)) → w'.heap[k]? = w.heap[k]?) : TR w' q := by
  obtain ⟨⟨A, n, c⟩, l⟩ := q
  obtain ⟨⟨h1, h2, h3, h4, h5⟩, hty⟩ := h
  rcases l with _ | ⟨x, l⟩
  · exact ⟨⟨h1, h2, h3, h4, fun hn => absurd hn (Nat.lt_irrefl 0)⟩, fun hn => absurd rfl hn⟩
  · obtain ⟨ad, cells, hA, hc⟩ := hty (by simp)
    have hA' : A = some ad := hA
    subst hA'
    have hb := hm ad.block cells hc
    refine ⟨⟨h1, h2, h3, h4, fun hn => ?_⟩, fun _ => ⟨ad, cells, rfl, hb.trans hc⟩⟩
    obtain ⟨ad2, e, hcs⟩ := h5 hn
    have e' : ad = ad2 := Option.some.inj e
    subst e'
    refine ⟨ad, rfl, fun j p hj => ?_⟩
    obtain ⟨cs, hl, hK, hcell⟩ := hcs j p hj
    obtain rfl := PMS.k66_open hK
    refine ⟨_, rfl, PMS.k66_mk w' p, fun i u hu => ?_⟩
    have e2 : (ad.add (j * 2 + i)).block = ad.block := by unfold Addr.add; split <;> rfl
    have h7 := hcell i u hu
    exact (cell_heap (w := w) (w' := w') (ad.add (j * 2 + i)) (by rw [e2]; exact hb)).trans h7
theorem TR.below {w w' : World} {q : SL × LS} (h : TR w q) (hb : Below w.heap.size w w') : TR w' q := h.move fun k cells hc => hb.block k (blk_lt hc)
theorem own_tr (W : World) (q : SL × LS) (hq : Rd W q) (hl : q.2.length < 4398046511104) :
    Calls Tryd.prog 42 #[encS q.1] W fun e w' => ∃ p : SL, e = .returned (encS p) ∧ TR w' (p, q.2) ∧ Below W.heap.size W w' := by
  obtain ⟨⟨A, n, c⟩, l⟩ := q
  obtain ⟨e1, hc, hC⟩ := hq
  have e1' : n = l.length := e1
  subst e1'
  rcases l with _ | ⟨y, l⟩
  · refine (own_nil_c W A c).mono ?_
    rintro e w' ⟨x, c', rfl, hB⟩
    exact ⟨(some x, 0, c'), rfl, ⟨⟨rfl, Nat.zero_le _, ⟨rfl, Nat.zero_le _, fun h => absurd h (Nat.lt_irrefl 0)⟩⟩, fun h => absurd rfl h⟩, hB⟩
  · have hf : PMS.limit_own.f (y :: l) = some (y :: l) := by
      unfold PMS.limit_own.f
      rw [Option.bind_some, if_pos (by simpa using hl)]
      rfl
    refine (PMS.limit_own.calls A c (y :: l) (y :: l) W hC hc hf).mono ?_
    rintro e w' ⟨v, rfl, hR, hB⟩
    obtain ⟨g, cap, rfl, _, _, cells, hcl⟩ := Kd.R_form hR (by simp)
    obtain ⟨A2, c2, e2, h2, h3⟩ := Kd.R_reads hR
    obtain ⟨rfl, -, rfl⟩ := Value.slice.inj e2
    exact ⟨(some ⟨g, 0, none⟩, (y :: l).length, cap), rfl, ⟨⟨rfl, h2, h3⟩, fun _ => ⟨_, cells, rfl, hcl⟩⟩, hB⟩
structure L5 (rt : LS → Int) (nm : LS → ByteArray) (w wr : World) (b it : Nat) (l done left : List PV) (qs : List (SL × LS)) (s : Value) : Prop where
  qi : IT wr it b left
  qp : l.Perm (done ++ left)
  qB : Below w.heap.size w wr
  qR : kV.R 61 wr w.heap.size (fun _ => True) s (qs.map (fun y : SL × LS => y.1))
  qn : qs.map (fun y : SL × LS => nm y.2) = done.map (·.1)
  qt : ∀ q ∈ qs, TR wr q ∧ rt q.2 = 0
  qw : w.heap.size ≤ it
set_option maxRecDepth 20000 in
set_option maxHeartbeats 8000000 in
theorem list_calls (w : World) (rt : LS → Int) (nm : LS → ByteArray) (cmp : LS → LS → Int) (g b : Nat) (l : List PV)
    (hg : w.heap[g]? = some (.cells #[.map (some b)] 72 (0, 0))) (hb : SM w b l) (hent : ∀ p ∈ l, Ent rt nm w p) (hll : l.length ≤ 1000000)
    (hlen : ∀ x : LS, rt x = 0 → x.length < 4398046511104) (hcmp : ∀ x y : LS, rt x = 0 → rt y = 0 → ∃ k, PMS.labels_Compare.f k x y = some (cmp x y)) :
    Calls Tryd.prog 31 #[.pointer (some ⟨g, 0, none⟩)] w fun e w' =>
      ∃ (v : Value) (qs ss : List (SL × LS)), e = .returned v ∧ ss = srt cmp qs ∧ (qs.map (fun y : SL × LS => nm y.2)).Perm (l.map (·.1)) ∧ kV.R 61 w' w.heap.size (fun _ => True) v (ss.map (fun y : SL × LS => y.1)) ∧ (∀ q ∈ ss, TR w' q ∧ rt q.2 = 0) ∧ Below w.heap.size w w' := by
  have HG := Lib.hid (fun (W : World) (hW : Below w.heap.size w W) => (hW.block g (blk_lt hg)).trans hg)
  have HB := Lib.hid (fun (W : World) (hW : Below w.heap.size w W) => hb.below hW)
  have HE := Lib.hid (fun (W : World) (hW : Below w.heap.size w W) => fun p hp => (hent p hp).ck (CK.below hW))
  have HBL := Lib.hid hb.lt
  have HLN := Lib.hid hlen
  have HCM := Lib.hid hcmp
  clear hg hb hent hlen hcmp
  go_enter Tryd.func31, Tryd.ntmps31
  go_upto_region 4 with (go_at_call 39; (with_reducible refine (ok_calls w g b (HG.out w (Below.refl _ w))).mono ?_); rintro e w1 ⟨rfl, hD⟩; have HB1 := Lib.hid (below_dr hD); clear hD)
  have hgc : w1.cell? ⟨g, 0, none⟩ = some (.map (some b)) := (blk_cell (HG.out w1 HB1.out) 0).trans rfl
  obtain ⟨o8, hrg, hI⟩ := range_sm w1 b l (HB.out w1 HB1.out)
  obtain ⟨it, hit⟩ : ∃ it, it = w1.heap.size := ⟨_, rfl⟩
  obtain ⟨W8, hW8⟩ : ∃ W8, W8 = w1.alloc o8 := ⟨_, rfl⟩
  have HL : Hid (L5 rt nm w W8 b it l [] l [] (.slice none 0 0)) := Lib.hid (by
    rw [← hW8, ← hit] at hI
    exact ⟨hI, List.Perm.refl _, by rw [hW8]; exact below_alloc HB1.out o8, Kd.R_nil _ _ _ _ _, rfl, fun q hq => by simp at hq, by rw [hit]; exact HB1.out.size⟩)
  rw [← hW8, ← hit] at hrg
  clear hW8 hit hI
  go_wp2
  go_loopg [3] l.length (fun kq s3 wr => ∃ (done left : List PV) (qs : List (SL × LS)), left.length = kq ∧ Hid (L5 rt nm w wr b it l done left qs s3))
  case atStart => exact ⟨[], l, [], rfl, HL.out⟩
  case round =>
    obtain ⟨done, left, qs, hkl, hL⟩ := hrel
    obtain ⟨A3, c3, hs3⟩ := Kd.R_slice hL.out.qR
    rw [List.length_map] at hs3
    subst hs3
    rcases next_sm wr it b left hL.out.qi with ⟨h0, hnx⟩ | ⟨p, left', w1', W9, o9, hp, hw1, hW9, hnx, hI9, hen⟩
    · subst h0
      have hR1 : kV.R 61 wr w.heap.size (fun _ => True) (.slice A3 (qs.map (fun y : SL × LS => y.1)).length c3) (qs.map (fun y : SL × LS => y.1)) := by rw [List.length_map]; exact hL.out.qR
      obtain ⟨A4, c4, e4, hcc, hCC⟩ := Kd.R_reads hR1
      obtain ⟨rfl, -, rfl⟩ := Value.slice.inj e4
      rw [List.length_map] at hcc hCC
      have hlq : qs.length ≤ 1000000 := by
        have h1 := congrArg List.length hL.out.qn
        have h2 := hL.out.qp.length_eq
        rw [List.length_map, List.length_map] at h1
        rw [List.append_nil] at h2
        omega
      have HCC := Lib.hid (And.intro hcc hCC)
      have HLQ := Lib.hid hlq
      have HCQ : Hid (Cmps cmp qs) := Lib.hid (fun x hx y hy => HCM.out x.2 y.2 (hL.out.qt x hx).2 (hL.out.qt y hy).2)
      clear hR1 hcc hCC hlq e4
      go_wp2_with (go_at_call 43; go_loud (with_reducible refine (sorted_calls wr cmp A3 c3 qs HCC.out.2 HCC.out.1 (fun q hq => (hL.out.qt q hq).1.rd) HLQ.out HCQ.out).mono ?_); rintro e w9 ⟨v9, rfl, hR9, hB9⟩; have HR9 := Lib.hid hR9; have HB9 := Lib.hid hB9; clear hR9 hB9)
      go_ret
      refine ⟨_, qs, _, rfl, rfl, ?_, Kd.R_lower HR9.out hL.out.qB.size, fun q hq => ?_, hL.out.qB.trans (lower_m HB9.out hL.out.qB.size)⟩
      · rw [hL.out.qn]
        have := hL.out.qp
        rw [List.append_nil] at this
        exact (this.map (·.1)).symm
      · have hq' : q ∈ qs := by
          have := (srt_perm cmp qs []).mem_iff.1 hq
          simpa using this
        exact ⟨(hL.out.qt q hq').1.below HB9.out, (hL.out.qt q hq').2⟩
    · have hpl : p ∈ l := hL.out.qp.mem_iff.2 (List.mem_append_right _ (hp.mem_iff.2 (by simp)))
      obtain ⟨ls, x, c, h1, h2, h3, h4, h5⟩ := (HE.out w (Below.refl _ w) p hpl).out
      obtain ⟨p1, p2⟩ := p
      have h1' : p2 = .slice (some x) ls.length c := h1
      subst h1'
      have hw1h : w1'.heap = wr.heap := by rcases hw1 with rfl | rfl <;> rfl
      have hfar : ∀ k, k ≠ it → W9.heap[k]? = wr.heap[k]? := fun k hk => by rw [hW9, setO_far _ _ _ _ hk, hw1h]
      have hitc : ∀ (k : Nat) (cells : Array Value) (t : Nat), wr.heap[k]? = some (.cells cells t (0, 0)) → k ≠ it := fun k cells t hc e => by
        obtain ⟨s, n, c0, es, cl, q1, _⟩ := hL.out.qi
        rw [e, q1] at hc
        cases hc
      have hB9 : Below w.heap.size w W9 := by
        have hb1 : Below w.heap.size w w1' := by
          rcases hw1 with rfl | rfl
          · exact hL.out.qB
          · exact below_drew1 hL.out.qB
        rw [hW9]
        exact below_setO hb1 hL.out.qw
      have hR9 : kV.R 61 W9 w.heap.size (fun _ => True) (.slice A3 qs.length c3) (qs.map (fun y : SL × LS => y.1)) :=
        Kd.R_mono (Kd.R_step (Kd.R_tight rfl hL.out.qR) (fun k hk _ => by
          obtain ⟨cells, hc⟩ := Kd.R_typed hL.out.qR k hk.symm
          exact hfar k (hitc k cells _ hc))) (fun _ _ => trivial)
      have hT9 : ∀ q ∈ qs, TR W9 q ∧ rt q.2 = 0 := fun q hq => ⟨(hL.out.qt q hq).1.move (fun k cells hc => hfar k (hitc k cells _ hc)), (hL.out.qt q hq).2⟩
      have hrd : Rd W9 ((some x, ls.length, c), ls) := ⟨rfl, h2, C_ck (CK.below hB9) h3⟩
      have hfresh := HLN.out ls h4
      have HX9 := Lib.hid (And.intro hB9 (And.intro hR9 (And.intro hT9 (And.intro hrd (And.intro hfresh (And.intro hI9 (And.intro h4 h5)))))))
      have HLEN : Hid (left.length = left'.length + 1) := Lib.hid hp.length_eq
      have HPR : Hid (l.Perm ((done ++ [(p1, .slice (some x) ls.length c)]) ++ left')) := Lib.hid (by
        rw [List.append_assoc]
        exact hL.out.qp.trans (hp.append_left done))
      have HQN := Lib.hid hL.out.qn
      have HQW := Lib.hid hL.out.qw
      have hlq : qs.length ≤ 1000000 := by
        have h1 := congrArg List.length hL.out.qn
        have h2 := hL.out.qp.length_eq
        rw [List.length_map, List.length_map] at h1
        rw [List.length_append] at h2
        omega
      have HLQ := Lib.hid hlq
      clear hlq hpl h1 h2 h3 h4 h5 hw1h hfar hitc hB9 hR9 hT9 hrd hfresh hW9 hw1 hI9 hp
      go_wp2_with (first
        | (go_at_call 42; (with_reducible refine (own_tr W9 ((some x, ls.length, c), ls) HX9.out.2.2.2.1 HX9.out.2.2.2.2.1).mono ?_); rintro e w5 ⟨pn, rfl, hT5, hB5⟩; have HT5 := Lib.hid hT5; have HR5 := Lib.hid (Kd.R_below HX9.out.2.1 hB5); have HB5a := Lib.hid hB5; have HB5 := Lib.hid (HX9.out.1.trans (lower_m hB5 HX9.out.1.size)); clear hT5 hB5)
        | (at_builtin; go_loud (refine Kd.R_append kV (w0 := w) (W := w5) w.heap.size rfl (.tmp 18) (.tmp 21) 50 61 (.slice none 0 0) 24 rfl Tryd.underlying50 info_ls rfl (by decide) (by decide) (.slice A3 qs.length c3) (qs.map (fun y : SL × LS => y.1)) pn [encS pn] (fun _ => True) (fun _ => False) rfl rfl rfl (fun _ h => h.elim) (fun _ _ => trivial) HR5.out HB5.out HB5.out.size (by rw [List.length_map]; have := HLQ.out; omega) ?_); go_loud (intro v8 w8 hR8 hB8 hg8 _; have HR8 := Lib.hid hR8; have HB8 := Lib.hid hB8; have HG8 := Lib.hid hg8; clear hR8 hB8 hg8)))
      go_roundg (gk - 1)
      case measure => have := HLEN.out; omega
      case rel =>
        have hne : ∀ (k : Nat) (cells : Array Value), w5.heap[k]? = some (.cells cells 66 (0, 0)) → w8.heap[k]? = w5.heap[k]? := fun k cells hc => HG8.out.block k (blk_lt hc) (Kd.R_ne HR5.out hc (by decide))
        refine ⟨done ++ [(p1, .slice (some x) ls.length c)], left', qs ++ [(pn, ls)], by have := HLEN.out; omega, ?_⟩
        refine ⟨?_, HPR.out, HB8.out, ?_, ?_, ?_, HQW.out⟩
        · have h5 : IT w5 it b left' := HX9.out.2.2.2.2.2.1.below HB5a.out
          have hnc : ∀ k, (some k = (Value.slice A3 qs.length c3).ownBlock) → ∃ cells, w5.heap[k]? = some (.cells cells 61 (0, 0)) := fun k hk => Kd.R_typed HR5.out k hk.symm
          refine h5.of_eq (HG8.out.block it h5.lt.1 (fun e => ?_)) (HG8.out.block b h5.lt.2.1 (fun e => ?_))
          · obtain ⟨cells, hc⟩ := hnc it e
            obtain ⟨s, n, c0, es, cl, q1, _⟩ := h5
            rw [q1] at hc
            cases hc
          · obtain ⟨cells, hc⟩ := hnc b e
            obtain ⟨s, n, c0, es, cl, _, q2, _⟩ := h5
            rw [q2] at hc
            cases hc
        · rw [List.map_append]
          exact HR8.out
        · rw [List.map_append, List.map_append, HQN.out]
          congr 1
          rw [List.map_cons, List.map_cons, HX9.out.2.2.2.2.2.2.2]
          rfl
        · intro q hq
          rcases List.mem_append.1 hq with hq | hq
          · have h := HX9.out.2.2.1 q hq
            exact ⟨(h.1.below HB5a.out).move hne, h.2⟩
          · rw [List.mem_singleton.1 hq]
            exact ⟨HT5.out.move hne, HX9.out.2.2.2.2.2.2.1⟩
end Go.Proofs.YtbpmgaaipkenkaaDoor
end
section
namespace Go.Proofs.YtbpmgaaipkenkaaDoor
open Go Go.RowKit Go.Proofs.YtbpmgaaipkenkaaDoorW.PrintWords Go.Proofs.YtbpmgaaipkenkaaDoorW.PrintLast Go.Proofs.YtbpmgaaipkenkaaDoorW.PrintMore
set_option linter.unusedVariables false
set_option linter.unusedSimpArgs false
theorem add64_run (x y : Int) (hx : 0 ≤ x) (hy : 0 ≤ y) (hx1 : x < 18446744073709551616) (hy1 : y < 18446744073709551616) (W : World) :
    (callFunc 37 #[.int .u64 x, .int .u64 y, .int .u64 0]).run Tryd.prog W = .ok (.value (.tuple #[.int .u64 ((x + y) % 18446744073709551616), .int .u64 ((x + y) / 18446744073709551616)])) W := by
  rw [run_callFunc_extern Tryd.func37 (by kernel_rfl) (by kernel_rfl) (by kernel_rfl) (e := add64Entry) (by kernel_rfl), run_add64 x y 0 (by omega) (by omega) (by omega) (by omega)]
  simp only [Result.andThen, Int.add_zero]
def plusF (a b : Int) : Int := if 18446744073709551615 < a + b then 18446744073709551615 else a + b
theorem plus_calls (a b : Int) (w : World) (ha : 0 ≤ a) (hb : 0 ≤ b) (ha1 : a < 18446744073709551616) (hb1 : b < 18446744073709551616) :
    Calls Tryd.prog 12 #[.int .u64 a, .int .u64 b] w fun e w' => e = .returned (.int .u64 (plusF a b)) ∧ Drawn0 w w' := by
  obtain ⟨s, hs⟩ : ∃ s, s = (a + b) % 18446744073709551616 := ⟨_, rfl⟩
  obtain ⟨c, hc⟩ : ∃ c, c = (a + b) / 18446744073709551616 := ⟨_, rfl⟩
  have hr := add64_run a b ha hb ha1 hb1
  rw [← hs, ← hc] at hr
  by_cases h : 18446744073709551615 < a + b
  · have e1 : plusF a b = 18446744073709551615 := by unfold plusF; rw [if_pos h]
    have h0 : decide (0 < c) = true := decide_eq_true (by omega)
    rw [e1]
    clear hs hc h e1
    go_enter Tryd.func12, Tryd.ntmps12
    go_wp2
    go_ret
    exact ⟨rfl, by repeat (first | exact Drawn0.refl _ | apply Drawn0.step)⟩
  · have e1 : plusF a b = s := by unfold plusF; rw [if_neg h]; omega
    have h0 : decide (0 < c) = false := decide_eq_false (by omega)
    rw [e1]
    clear hs hc h e1
    go_enter Tryd.func12, Tryd.ntmps12
    go_wp2
    go_ret
    exact ⟨rfl, by repeat (first | exact Drawn0.refl _ | apply Drawn0.step)⟩
end Go.Proofs.YtbpmgaaipkenkaaDoor
end
section
namespace Go.Proofs.YtbpmgaaipkenkaaDoor.PMD
open Go.RowKit Go.Proofs.YtbpmgaaipkenkaaDoorW.PrintWords Go.Proofs.YtbpmgaaipkenkaaDoorW.PrintLast Go.Proofs.YtbpmgaaipkenkaaDoorW.PrintMore
attribute [local go_sem] max2_int min2_int max_two min_two max_three min_three max_four min_four
set_option linter.unusedVariables false
set_option linter.unusedSimpArgs false
def errW : Option Int → Value
 | none => .nilIface
 | some c => .iface 0 (.int .i64 c)
theorem errW_none : errW none = .nilIface := rfl
theorem errW_some (c : Int) : errW (some c) = .iface 0 (.int .i64 c) := rfl
end Go.Proofs.YtbpmgaaipkenkaaDoor.PMD
end
