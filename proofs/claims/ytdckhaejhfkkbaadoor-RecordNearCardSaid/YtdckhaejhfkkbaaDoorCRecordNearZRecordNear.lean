import Derived.Test.YtdckhaejhfkkbaaDoorRows
import Derived.WalkKit
import Derived.Test.YtdckhaejhfkkbaaDoorCRecordNearG1
import Derived.Test.YtdckhaejhfkkbaaDoorCRecordNearO3
import Derived.ProofKit
import Derived.OpenShut
import Derived.ShutString
import Derived.ChangeOld
import Derived.Below
import Derived.LaidMore
import Derived.Stop.Joined
import Derived.SevenTiedAt
import Derived.Lay
import Derived.LaidOnce
import Derived.Test.YtdckhaejhfkkbaaDoorTie
import Derived.Test.YtdckhaejhfkkbaaDoorCards
namespace Go.Proofs.YtdckhaejhfkkbaaDoor.recordNear
open Go.ChangeShapes Go.WideShapes Go.ChangeAt Go.RowKit Go.Proofs.YtdckhaejhfkkbaaDoor.PRT Go.Proofs.YtdckhaejhfkkbaaDoorW.PrintWords Go.Proofs.YtdckhaejhfkkbaaDoorW.PrintMore Go.Proofs.YtdckhaejhfkkbaaDoorW.PrintLast
open Go.ChangeMaps (open_string shut_string)
set_option linter.unusedVariables false
theorem own : ownKnob Tryd.prog.godebug = none := by kernel_rfl
theorem laidOut : laidOutB Tryd.prog = true := by kernel_rfl
def laid_ : List (String × DataW Unit) := [("unicode/utf8.acceptRanges", Rows.laid_unicode_utf8_acceptRanges), ("unicode/utf8.first", Rows.laid_unicode_utf8_first)]
theorem walk (w : World) (hL : laidMetH Tryd.prog laid_ w) (x0 : S45) (w0 : (fun x : S45 => (fun a => (fun n => (Lit.int .u32 n).wf = true) a.1 ∧ (fun x : S43 => (fun a => (fun n => (Lit.int .i64 n).wf = true) a.1 ∧ (fun a => (fun n => (Lit.int .u64 n).wf = true) a.1 ∧ (fun n => (Lit.int .u64 n).wf = true) a.2) a.2) (x.f0, x.f1, x.f2)) a.2) (x.f0, x.f1)) x0) (A1 : Option Addr) (c1 : Nat) (x1 : List Bool) (l1 : x1.length ≤ c1) (C1 : Kd.bool.C w A1 x1.length x1) (w1 : ∀ y ∈ x1, (fun _ => True) y) (A2 : Option Addr) (c2 : Nat) (x2 : List Int) (l2 : x2.length ≤ c2) (C2 : (Kd.int .u64).C w A2 x2.length x2) (w2 : ∀ y ∈ x2, (fun n => (Lit.int .u64 n).wf = true) y) :
    Calls Tryd.prog 5 #[.agg #[.int .u32 x0.f0, .int .i64 x0.f1.f0, .int .u64 x0.f1.f1, .int .u64 x0.f1.f2], .slice A1 x1.length c1, .slice A2 x2.length c2] w fun e w' => e = .returned (.bool true) ∧ Below w.heap.size w w' := by
  obtain ⟨k, h⟩ := Pu.recordNear x0.f0 x0.f1.f0 x0.f1.f1 x0.f1.f2 x1 x2 (wf_i64 w0.2.1)
  exact manometerlaw13_RecordNear.calls k x0.f0 x0.f1.f0 x0.f1.f1 x0.f1.f2 A1 c1 x1 A2 c2 x2 true w ⟨tab_of hL⟩ C1 l1 C2 l2 h
set_option maxRecDepth 100000 in
theorem lifted (os : Os) (started : os.Started) (H : Type) (enc : TypeId × Value → H) :
    ReturnsInHanded {} Tryd.checked os 5 .any (fun w args => (Rows.recordNearSpec.pre enc Tryd.prog Tryd.f5 [] false w args ∧ laidMetH Tryd.prog laid_ w) ∧ sizedMet enc Tryd.prog Tryd.f5 (OpenSpec.ofChange Rows.recordNearSpec) false w args) (Rows.recordNearSpec.post enc Tryd.prog Tryd.f5 false true false false) := by
  refine returnsInHanded_of_change_and (C := Tryd.checked) (X := fun w _ => laidMetH Tryd.prog laid_ w) (fun _ _ _ hh h => h.of_heap hh) own started (by kernel_rfl) Tryd.func5
    (ChangeSpec.witness_shaped (enc := enc) (C := Tryd.checked) (os := os) (X := fun w _ => laidMetH Tryd.prog laid_ w) false (World.laidAll Tryd.prog os laid_) #[.agg #[.int .u32 0, .int .i64 0, .int .u64 0, .int .u64 0], .slice none 0 0, .slice none 0 0] 8 (World.laidAll_os _ _ _) (World.shaped_of_ZipB (by kernel_rfl) (by kernel_rfl)) (by kernel_rfl) (by kernel_rfl) (by kernel_rfl) (by rw [MakeChecks.laidMetH_plain _ _ _ (by kernel_rfl)]; exact laidMet_laidAll _ (by kernel_rfl) (by kernel_rfl))) ?_
  intro W base args ds gs before hval0 hW hcnd _ hL _
  have hval : ∀ (j : Nat) t v, Tryd.f5.params[j]? = some t → args[j]? = some v → Value.okWide Tryd.prog W .any base t v := hval0
  have hW' := hW
  obtain ⟨p, q, hA0, hV, rfl, hfz, hnd⟩ := hW
  have hA : DataW.TrodAll enc Tryd.prog W 0 (fun _ => true) true Tryd.f5.params.toList args.toList ds p := hA0
  rw [Tryd.params5] at hA hval
  obtain ⟨v0, vs0, d0, ds0, p0, q0, hargs, rfl, rfl, h0, r0⟩ := trodAll_cons hA
  obtain ⟨v1, vs1, d1, ds1, p1, q1, rfl, rfl, rfl, h1, r1⟩ := trodAll_cons r0
  obtain ⟨v2, vs2, d2, ds2, p2, q2, rfl, rfl, rfl, h2, r2⟩ := trodAll_cons r1
  obtain ⟨rfl, rfl, rfl⟩ := trodAll_nil r2
  obtain rfl : args = #[v0, v1, v2] := by cases args; simp_all
  obtain ⟨rfl, rfl⟩ := trodVars_none hV
  obtain ⟨cs0, rfl, hsz0⟩ := okWide_struct Tryd.underlying45 (hval 0 45 v0 rfl rfl)
  have k0 := h0
  have lt0 : ∀ x ∈ p0, x.block < W.heap.size := by obtain ⟨m, hm⟩ := k0; exact DataW.trod_lt m _ _ _ hm
  obtain ⟨x0, hK0, w0⟩ := opens_val (opens_iso (fun x : S45 => (x.f0, x.f1)) (fun y => (⟨y.1, y.2⟩ : S45)) (fun y => rfl) (opens_struct (n := 4) Tryd.underlying45 (by kernel_rfl) (opens_cons rfl rfl (by kernel_rfl) (of_decide_eq_true (by kernel_rfl)) (opens_int Tryd.underlying24) (opens_last rfl rfl (by kernel_rfl) (by kernel_rfl) (opens_iso (fun x : S43 => (x.f0, x.f1, x.f2)) (fun y => (⟨y.1, y.2.1, y.2.2⟩ : S43)) (fun y => rfl) (opens_struct (n := 3) Tryd.underlying43 (by kernel_rfl) (opens_cons rfl rfl (by kernel_rfl) (of_decide_eq_true (by kernel_rfl)) (opens_int Tryd.underlying2) (opens_cons rfl rfl (by kernel_rfl) (of_decide_eq_true (by kernel_rfl)) (opens_int Tryd.underlying41) (opens_last rfl rfl (by kernel_rfl) (by kernel_rfl) (opens_int Tryd.underlying41)))))))))) h0
  have hcs0 := k45_open hK0
  obtain rfl : cs0 = #[.int .u32 x0.f0, .int .i64 x0.f1.f0, .int .u64 x0.f1.f1, .int .u64 x0.f1.f2] := Array.toList_inj.1 hcs0
  obtain ⟨A1, len1, c1, rfl⟩ := okWide_slice Tryd.underlying46 (hval 1 46 v1 rfl rfl)
  have k1 := h1
  have lt1 : ∀ x ∈ p1, x.block < W.heap.size := by obtain ⟨m, hm⟩ := k1; exact DataW.trod_lt m _ _ _ hm
  obtain ⟨x1, rfl, l1, C1, w1⟩ := opens_arg (opens_slice Tryd.underlying46 (by kernel_rfl) (opens_bool Tryd.underlying4)) h1
  obtain ⟨A2, len2, c2, rfl⟩ := okWide_slice Tryd.underlying47 (hval 2 47 v2 rfl rfl)
  have k2 := h2
  have lt2 : ∀ x ∈ p2, x.block < W.heap.size := by obtain ⟨m, hm⟩ := k2; exact DataW.trod_lt m _ _ _ hm
  obtain ⟨x2, rfl, l2, C2, w2⟩ := opens_arg (opens_slice Tryd.underlying47 (by kernel_rfl) (opens_int Tryd.underlying41)) h2
  clear hA0 hval0
  refine (walk W hL x0 w0 A1 c1 x1 l1 C1 w1 A2 c2 x2 l2 C2 w2).mono fun e W' ⟨he, bel⟩ => ?_
  subst he
  exact ⟨_, rfl, _, _, _, [], _, [], hW', trodAll_mk1 (shut_bool Tryd.underlying4 _), (trodAll_cons_mk (Below.trod laidOut (by kernel_rfl) (of_decide_eq_true (by kernel_rfl)) k0 bel lt0) (trodAll_cons_mk (Below.trod laidOut (by kernel_rfl) (of_decide_eq_true (by kernel_rfl)) k1 bel lt1) (trodAll_cons_mk (Below.trod laidOut (by kernel_rfl) (of_decide_eq_true (by kernel_rfl)) k2 bel lt2) trodAll_mk0))), rfl, bel.frame _, fun h => by cases h⟩
theorem over : Rows.recordNearRow.holds Tryd.pinned (OpenSpec.ofChange Rows.recordNearSpec) :=
  OpenClaim.holds_of_wide 5 Tryd.f5 rfl rfl rfl rfl rfl rfl rfl ⟨rfl, rfl, rfl, rfl, rfl⟩ rfl rfl rfl rfl rfl (by kernel_rfl) Tryd.func5 (by kernel_rfl)
    (of_decide_eq_true (by kernel_rfl)) (by unfold Func.isWrapper; first | (rw [if_pos (by decide +kernel)]; kernel_rfl) | (rw [if_neg (by decide +kernel)]; exact ⟨rfl, rfl⟩))
    (fun os started H enc _ => lifted os started H enc)
theorem proved : Rows.RecordNearCardSaid :=
  Claim7.holds_tied_plain_at .later [] [.data, .pinned] true (true, "c852d48a1211bfb985d7cc4751ef4b8564a332a8cc1bb16df13d9ae464ee2da7") false
    over (fun _ h => by cases h) (by kernel_rfl) (fun _ h => by cases h) recordNear_row_tie rfl ⟨rfl, rfl⟩ (by kernel_rfl) rfl
    (fun f fn hf hfn => by
      obtain rfl : f = 5 := Option.some.inj ((show Tryd.prog.funcNamed "manometer/manometerlaw13.RecordNear" = some 5 by kernel_rfl).symm.trans hf) |>.symm
      obtain rfl : fn = Tryd.f5 := (Option.some.inj (Tryd.func5.symm.trans hfn)).symm
      exact ⟨by kernel_rfl, fun j t ht => by
        rw [Tryd.params5] at ht
        have hm : t ∈ [45, 46, 47] := by simpa using Array.mem_of_getElem? ht
        have hall : ([45, 46, 47].all fun u => !Tryd.prog.wantsStandIn u) = true := by kernel_rfl
        exact (show Tryd.prog.wantsStandIn t = false by simpa using List.all_eq_true.1 hall t hm)⟩)
    (by kernel_rfl)
end Go.Proofs.YtdckhaejhfkkbaaDoor.recordNear
