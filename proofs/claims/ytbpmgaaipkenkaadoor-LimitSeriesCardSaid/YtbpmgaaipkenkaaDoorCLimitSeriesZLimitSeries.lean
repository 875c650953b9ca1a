import Derived.Test.YtbpmgaaipkenkaaDoorRows
import Derived.WalkKit
import Derived.Test.YtbpmgaaipkenkaaDoorCLimitSeriesG2
import Derived.Test.YtbpmgaaipkenkaaDoorCLimitSeriesO3
import Derived.ProofKit
import Derived.OpenShut
import Derived.ShutString
import Derived.ChangeOld
import Derived.Below
import Derived.LaidMore
import Derived.Stop.Joined
import Derived.SevenTiedAt
import Derived.Lay
import Derived.LaidOnce
import Derived.Test.YtbpmgaaipkenkaaDoorTie
import Derived.Test.YtbpmgaaipkenkaaDoorCards
namespace Go.Proofs.YtbpmgaaipkenkaaDoor.limitSeries
open Go.ChangeShapes Go.WideShapes Go.ChangeAt Go.RowKit Go.Proofs.YtbpmgaaipkenkaaDoor.PMS Go.Proofs.YtbpmgaaipkenkaaDoorW.PrintWords Go.Proofs.YtbpmgaaipkenkaaDoorW.PrintMore Go.Proofs.YtbpmgaaipkenkaaDoorW.PrintLast
open Go.ChangeMaps (open_string shut_string)
set_option linter.unusedVariables false
theorem own : ownKnob Tryd.prog.godebug = none := by kernel_rfl
theorem laidOut : laidOutB Tryd.prog = true := by kernel_rfl
def laid_ : List (String × DataW Unit) := [("unicode/utf8.acceptRanges", Rows.laid_unicode_utf8_acceptRanges), ("unicode/utf8.first", Rows.laid_unicode_utf8_first)]
theorem walk (w : World) (hL : laidMetH Tryd.prog laid_ w) (A0 : Option Addr) (c0 : Nat) (x0 : List S52) (l0 : x0.length ≤ c0) (C0 : k52.C w A0 x0.length x0) (w0 : ∀ y ∈ x0, (fun x : S52 => (fun a => (fun xs => ∀ x ∈ xs, (fun xs => ∀ x ∈ xs, (fun x : S66 => (fun a => (fun s => s.size ≤ maxLen) a.1 ∧ (fun s => s.size ≤ maxLen) a.2) (x.f0, x.f1)) x) x) a.1 ∧ (fun a => (fun n => (Lit.int .i64 n).wf = true) a.1 ∧ (fun _ => True) a.2) a.2) (x.f0, x.f1, x.f2)) y) (A1 : Option Addr) (c1 : Nat) (x1 : List S66) (l1 : x1.length ≤ c1) (C1 : k66.C w A1 x1.length x1) (w1 : ∀ y ∈ x1, (fun x : S66 => (fun a => (fun s => s.size ≤ maxLen) a.1 ∧ (fun s => s.size ≤ maxLen) a.2) (x.f0, x.f1)) y) :
    Calls Tryd.prog 9 #[.slice A0 x0.length c0, .slice A1 x1.length c1] w fun e w' => e = .returned (.bool true) ∧ Below w.heap.size w w' := by
  exact limitSeries_calls w (tab_of hL) Pv.rtS Pv.nmS Pv.cmpB Pv.sameB Pv.Sm _ Pv.side A0 c0 x0 C0 (fun x hx => (wf_iff' _ _).1 (w0 x hx).2.1) A1 c1 x1 C1 l1
set_option maxRecDepth 100000 in
theorem lifted (os : Os) (started : os.Started) (H : Type) (enc : TypeId × Value → H) :
    ReturnsInHanded {} Tryd.checked os 9 .any (fun w args => (Rows.limitSeriesSpec.pre enc Tryd.prog Tryd.f9 [] false w args ∧ laidMetH Tryd.prog laid_ w) ∧ sizedMet enc Tryd.prog Tryd.f9 (OpenSpec.ofChange Rows.limitSeriesSpec) false w args) (Rows.limitSeriesSpec.post enc Tryd.prog Tryd.f9 false true false false) := by
  refine returnsInHanded_of_change_and (C := Tryd.checked) (X := fun w _ => laidMetH Tryd.prog laid_ w) (fun _ _ _ hh h => h.of_heap hh) own started (by kernel_rfl) Tryd.func9
    (ChangeSpec.witness_shaped (enc := enc) (C := Tryd.checked) (os := os) (X := fun w _ => laidMetH Tryd.prog laid_ w) false (World.laidAll Tryd.prog os laid_) #[.slice none 0 0, .slice none 0 0] 8 (World.laidAll_os _ _ _) (World.shaped_of_ZipB (by kernel_rfl) (by kernel_rfl)) (by kernel_rfl) (by kernel_rfl) (by kernel_rfl) (by rw [MakeChecks.laidMetH_plain _ _ _ (by kernel_rfl)]; exact laidMet_laidAll _ (by kernel_rfl) (by kernel_rfl))) ?_
  intro W base args ds gs before hval0 hW hcnd _ hL _
  have hval : ∀ (j : Nat) t v, Tryd.f9.params[j]? = some t → args[j]? = some v → Value.okWide Tryd.prog W .any base t v := hval0
  have hW' := hW
  obtain ⟨p, q, hA0, hV, rfl, hfz, hnd⟩ := hW
  have hA : DataW.TrodAll enc Tryd.prog W 0 (fun _ => true) true Tryd.f9.params.toList args.toList ds p := hA0
  rw [Tryd.params9] at hA hval
  obtain ⟨v0, vs0, d0, ds0, p0, q0, hargs, rfl, rfl, h0, r0⟩ := trodAll_cons hA
  obtain ⟨v1, vs1, d1, ds1, p1, q1, rfl, rfl, rfl, h1, r1⟩ := trodAll_cons r0
  obtain ⟨rfl, rfl, rfl⟩ := trodAll_nil r1
  obtain rfl : args = #[v0, v1] := by cases args; simp_all
  obtain ⟨rfl, rfl⟩ := trodVars_none hV
  obtain ⟨A0, len0, c0, rfl⟩ := okWide_slice Tryd.underlying47 (hval 0 47 v0 rfl rfl)
  have k0 := h0
  have lt0 : ∀ x ∈ p0, x.block < W.heap.size := by obtain ⟨m, hm⟩ := k0; exact DataW.trod_lt m _ _ _ hm
  obtain ⟨x0, rfl, l0, C0, w0⟩ := opens_arg (opens_slice Tryd.underlying47 (by kernel_rfl) (opens_iso (fun x : S52 => (x.f0, x.f1, x.f2)) (fun y => (⟨y.1, y.2.1, y.2.2⟩ : S52)) (fun y => rfl) (opens_struct (n := 3) Tryd.underlying52 (by kernel_rfl) (opens_cons rfl rfl (by kernel_rfl) (of_decide_eq_true (by kernel_rfl)) (opens_slice Tryd.underlying50 (by kernel_rfl) (opens_slice Tryd.underlying61 (by kernel_rfl) (opens_iso (fun x : S66 => (x.f0, x.f1)) (fun y => (⟨y.1, y.2⟩ : S66)) (fun y => rfl) (opens_struct (n := 2) Tryd.underlying66 (by kernel_rfl) (opens_cons rfl rfl (by kernel_rfl) (of_decide_eq_true (by kernel_rfl)) (opens_string Tryd.underlying9) (opens_last rfl rfl (by kernel_rfl) (by kernel_rfl) (opens_string Tryd.underlying9))))))) (opens_cons rfl rfl (by kernel_rfl) (of_decide_eq_true (by kernel_rfl)) (opens_int Tryd.underlying3) (opens_last rfl rfl (by kernel_rfl) (by kernel_rfl) (opens_bool Tryd.underlying4))))))) h0
  obtain ⟨A1, len1, c1, rfl⟩ := okWide_slice Tryd.underlying61 (hval 1 61 v1 rfl rfl)
  have k1 := h1
  have lt1 : ∀ x ∈ p1, x.block < W.heap.size := by obtain ⟨m, hm⟩ := k1; exact DataW.trod_lt m _ _ _ hm
  obtain ⟨x1, rfl, l1, C1, w1⟩ := opens_arg (opens_slice Tryd.underlying61 (by kernel_rfl) (opens_iso (fun x : S66 => (x.f0, x.f1)) (fun y => (⟨y.1, y.2⟩ : S66)) (fun y => rfl) (opens_struct (n := 2) Tryd.underlying66 (by kernel_rfl) (opens_cons rfl rfl (by kernel_rfl) (of_decide_eq_true (by kernel_rfl)) (opens_string Tryd.underlying9) (opens_last rfl rfl (by kernel_rfl) (by kernel_rfl) (opens_string Tryd.underlying9)))))) h1
  clear hA0 hval0
  refine (walk W hL A0 c0 x0 l0 C0 w0 A1 c1 x1 l1 C1 w1).mono fun e W' ⟨he, bel⟩ => ?_
  subst he
  exact ⟨_, rfl, _, _, _, [], _, [], hW', trodAll_mk1 (shut_bool Tryd.underlying4 _), (trodAll_cons_mk (Below.trod laidOut (by kernel_rfl) (of_decide_eq_true (by kernel_rfl)) k0 bel lt0) (trodAll_cons_mk (Below.trod laidOut (by kernel_rfl) (of_decide_eq_true (by kernel_rfl)) k1 bel lt1) trodAll_mk0)), rfl, bel.frame _, fun h => by cases h⟩
theorem over : Rows.limitSeriesRow.holds Tryd.pinned (OpenSpec.ofChange Rows.limitSeriesSpec) :=
  OpenClaim.holds_of_wide 9 Tryd.f9 rfl rfl rfl rfl rfl rfl rfl ⟨rfl, rfl, rfl, rfl, rfl⟩ rfl rfl rfl rfl rfl (by kernel_rfl) Tryd.func9 (by kernel_rfl)
    (of_decide_eq_true (by kernel_rfl)) (by unfold Func.isWrapper; first | (rw [if_pos (by decide +kernel)]; kernel_rfl) | (rw [if_neg (by decide +kernel)]; exact ⟨rfl, rfl⟩))
    (fun os started H enc _ => lifted os started H enc)
theorem proved : Rows.LimitSeriesCardSaid :=
  Claim7.holds_tied_plain_at .later [] [.data, .pinned] true (true, "1e4413f4b4df54c76e0d7d1d965032fa81a12854d90aa0ef31e6e65c062a485e") false
    over (fun _ h => by cases h) (by kernel_rfl) (fun _ h => by cases h) limitSeries_row_tie rfl ⟨rfl, rfl⟩ (by kernel_rfl) rfl
    (fun f fn hf hfn => by
      obtain rfl : f = 9 := Option.some.inj ((show Tryd.prog.funcNamed "manometer/manometerlaw19.LimitSeries" = some 9 by kernel_rfl).symm.trans hf) |>.symm
      obtain rfl : fn = Tryd.f9 := (Option.some.inj (Tryd.func9.symm.trans hfn)).symm
      exact ⟨by kernel_rfl, fun j t ht => by
        rw [Tryd.params9] at ht
        have hm : t ∈ [47, 61] := by simpa using Array.mem_of_getElem? ht
        have hall : ([47, 61].all fun u => !Tryd.prog.wantsStandIn u) = true := by kernel_rfl
        exact (show Tryd.prog.wantsStandIn t = false by simpa using List.all_eq_true.1 hall t hm)⟩)
    (by kernel_rfl)
end Go.Proofs.YtbpmgaaipkenkaaDoor.limitSeries
