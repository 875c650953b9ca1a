import Derived.Test.YtdckhaejhfkkbaaDoorRows
import Derived.WalkKit
import Derived.Test.YtdckhaejhfkkbaaDoorCRecordPutsG0
import Derived.Test.YtdckhaejhfkkbaaDoorCRecordPutsO3
import Derived.ProofKit
import Derived.OpenShut
import Derived.ShutString
import Derived.ChangeOld
import Derived.Below
import Derived.LaidMore
import Derived.Stop.Joined
import Derived.SevenTiedAt
import Derived.Lay
import Derived.LaidOnce
import Derived.Test.YtdckhaejhfkkbaaDoorTie
import Derived.Test.YtdckhaejhfkkbaaDoorCards
namespace Go.Proofs.YtdckhaejhfkkbaaDoor.recordPuts
open Go.ChangeShapes Go.WideShapes Go.ChangeAt Go.RowKit Go.Proofs.YtdckhaejhfkkbaaDoor.PRT Go.Proofs.YtdckhaejhfkkbaaDoorW.PrintWords Go.Proofs.YtdckhaejhfkkbaaDoorW.PrintMore Go.Proofs.YtdckhaejhfkkbaaDoorW.PrintLast
open Go.ChangeMaps (open_string shut_string)
set_option linter.unusedVariables false
theorem own : ownKnob Tryd.prog.godebug = none := by kernel_rfl
theorem laidOut : laidOutB Tryd.prog = true := by kernel_rfl
def laid_ : List (String × DataW Unit) := [("unicode/utf8.acceptRanges", Rows.laid_unicode_utf8_acceptRanges), ("unicode/utf8.first", Rows.laid_unicode_utf8_first)]
theorem walk (w : World) (hL : laidMetH Tryd.prog laid_ w) (x0 : S29) (w0 : (fun x : S29 => (fun a => (fun n => (Lit.int .i64 n).wf = true) a.1 ∧ (fun a => (fun n => (Lit.int .u32 n).wf = true) a.1 ∧ (fun a => (fun xs => ∀ x ∈ xs, (fun x : S52 => (fun a => (fun s => s.size ≤ maxLen) a.1 ∧ (fun s => s.size ≤ maxLen) a.2) (x.f0, x.f1)) x) a.1 ∧ (fun xs => ∀ x ∈ xs, (fun x : S45 => (fun a => (fun n => (Lit.int .u32 n).wf = true) a.1 ∧ (fun x : S43 => (fun a => (fun n => (Lit.int .i64 n).wf = true) a.1 ∧ (fun a => (fun n => (Lit.int .u64 n).wf = true) a.1 ∧ (fun n => (Lit.int .u64 n).wf = true) a.2) a.2) (x.f0, x.f1, x.f2)) a.2) (x.f0, x.f1)) x) a.2) a.2) a.2) (x.f0, x.f1, x.f2, x.f3)) x0) (A0_2 : Option Addr) (c0_2 : Nat) (l0_2 : x0.f2.length ≤ c0_2) (C0_2 : k52.C w A0_2 x0.f2.length x0.f2) (A0_3 : Option Addr) (c0_3 : Nat) (l0_3 : x0.f3.length ≤ c0_3) (C0_3 : k45.C w A0_3 x0.f3.length x0.f3) :
    Calls Tryd.prog 4 #[.agg #[.int .i64 x0.f0, .int .u32 x0.f1, .slice A0_2 x0.f2.length c0_2, .slice A0_3 x0.f3.length c0_3]] w fun e w' => e = .returned (.bool true) ∧ Below w.heap.size w w' := by
  obtain ⟨k, h⟩ := Pu.recordPuts x0.f0 x0.f1 x0.f2 x0.f3 (fun x hx => by obtain ⟨m, hm, hm2⟩ : ∃ m : Nat, x.f1.f1 = m ∧ m < 18446744073709551616 := wf_u64 (w0.2.2.2 x hx).2.2.1; omega) (wf_u32 w0.2.1).1 (wf_u32 w0.2.1).2
  exact manometerlaw13_RecordPuts.calls k x0.f0 x0.f1 A0_2 c0_2 x0.f2 A0_3 c0_3 x0.f3 true w ⟨tab_of hL⟩ C0_2 l0_2 C0_3 l0_3 h
set_option maxRecDepth 100000 in
theorem lifted (os : Os) (started : os.Started) (H : Type) (enc : TypeId × Value → H) :
    ReturnsInHanded {} Tryd.checked os 4 .any (fun w args => (Rows.recordPutsSpec.pre enc Tryd.prog Tryd.f4 [] false w args ∧ laidMetH Tryd.prog laid_ w) ∧ sizedMet enc Tryd.prog Tryd.f4 (OpenSpec.ofChange Rows.recordPutsSpec) false w args) (Rows.recordPutsSpec.post enc Tryd.prog Tryd.f4 false true false false) := by
  refine returnsInHanded_of_change_and (C := Tryd.checked) (X := fun w _ => laidMetH Tryd.prog laid_ w) (fun _ _ _ hh h => h.of_heap hh) own started (by kernel_rfl) Tryd.func4
    (ChangeSpec.witness_shaped (enc := enc) (C := Tryd.checked) (os := os) (X := fun w _ => laidMetH Tryd.prog laid_ w) false (World.laidAll Tryd.prog os laid_) #[.agg #[.int .i64 0, .int .u32 0, .slice none 0 0, .slice none 0 0]] 8 (World.laidAll_os _ _ _) (World.shaped_of_ZipB (by kernel_rfl) (by kernel_rfl)) (by kernel_rfl) (by kernel_rfl) (by kernel_rfl) (by rw [MakeChecks.laidMetH_plain _ _ _ (by kernel_rfl)]; exact laidMet_laidAll _ (by kernel_rfl) (by kernel_rfl))) ?_
  intro W base args ds gs before hval0 hW hcnd _ hL _
  have hval : ∀ (j : Nat) t v, Tryd.f4.params[j]? = some t → args[j]? = some v → Value.okWide Tryd.prog W .any base t v := hval0
  have hW' := hW
  obtain ⟨p, q, hA0, hV, rfl, hfz, hnd⟩ := hW
  have hA : DataW.TrodAll enc Tryd.prog W 0 (fun _ => true) true Tryd.f4.params.toList args.toList ds p := hA0
  rw [Tryd.params4] at hA hval
  obtain ⟨v0, vs0, d0, ds0, p0, q0, hargs, rfl, rfl, h0, r0⟩ := trodAll_cons hA
  obtain ⟨rfl, rfl, rfl⟩ := trodAll_nil r0
  obtain rfl : args = #[v0] := by cases args; simp_all
  obtain ⟨rfl, rfl⟩ := trodVars_none hV
  obtain ⟨cs0, rfl, hsz0⟩ := okWide_struct Tryd.underlying29 (hval 0 29 v0 rfl rfl)
  have k0 := h0
  have lt0 : ∀ x ∈ p0, x.block < W.heap.size := by obtain ⟨m, hm⟩ := k0; exact DataW.trod_lt m _ _ _ hm
  obtain ⟨x0, hK0, w0⟩ := opens_val (opens_iso (fun x : S29 => (x.f0, x.f1, x.f2, x.f3)) (fun y => (⟨y.1, y.2.1, y.2.2.1, y.2.2.2⟩ : S29)) (fun y => rfl) (opens_struct (n := 4) Tryd.underlying29 (by kernel_rfl) (opens_cons rfl rfl (by kernel_rfl) (of_decide_eq_true (by kernel_rfl)) (opens_int Tryd.underlying3) (opens_cons rfl rfl (by kernel_rfl) (of_decide_eq_true (by kernel_rfl)) (opens_int Tryd.underlying24) (opens_cons rfl rfl (by kernel_rfl) (of_decide_eq_true (by kernel_rfl)) (opens_slice Tryd.underlying26 (by kernel_rfl) (opens_iso (fun x : S52 => (x.f0, x.f1)) (fun y => (⟨y.1, y.2⟩ : S52)) (fun y => rfl) (opens_struct (n := 2) Tryd.underlying52 (by kernel_rfl) (opens_cons rfl rfl (by kernel_rfl) (of_decide_eq_true (by kernel_rfl)) (opens_string Tryd.underlying9) (opens_last rfl rfl (by kernel_rfl) (by kernel_rfl) (opens_string Tryd.underlying9)))))) (opens_last rfl rfl (by kernel_rfl) (by kernel_rfl) (opens_slice Tryd.underlying27 (by kernel_rfl) (opens_iso (fun x : S45 => (x.f0, x.f1)) (fun y => (⟨y.1, y.2⟩ : S45)) (fun y => rfl) (opens_struct (n := 4) Tryd.underlying45 (by kernel_rfl) (opens_cons rfl rfl (by kernel_rfl) (of_decide_eq_true (by kernel_rfl)) (opens_int Tryd.underlying24) (opens_last rfl rfl (by kernel_rfl) (by kernel_rfl) (opens_iso (fun x : S43 => (x.f0, x.f1, x.f2)) (fun y => (⟨y.1, y.2.1, y.2.2⟩ : S43)) (fun y => rfl) (opens_struct (n := 3) Tryd.underlying43 (by kernel_rfl) (opens_cons rfl rfl (by kernel_rfl) (of_decide_eq_true (by kernel_rfl)) (opens_int Tryd.underlying2) (opens_cons rfl rfl (by kernel_rfl) (of_decide_eq_true (by kernel_rfl)) (opens_int Tryd.underlying41) (opens_last rfl rfl (by kernel_rfl) (by kernel_rfl) (opens_int Tryd.underlying41))))))))))))))))) h0
  obtain ⟨A0_2, c0_2, A0_3, c0_3, hcs0, l0_2, C0_2, l0_3, C0_3⟩ := k29_open hK0
  obtain rfl : cs0 = #[.int .i64 x0.f0, .int .u32 x0.f1, .slice A0_2 x0.f2.length c0_2, .slice A0_3 x0.f3.length c0_3] := Array.toList_inj.1 hcs0
  clear hA0 hval0
  refine (walk W hL x0 w0 A0_2 c0_2 l0_2 C0_2 A0_3 c0_3 l0_3 C0_3).mono fun e W' ⟨he, bel⟩ => ?_
  subst he
  exact ⟨_, rfl, _, _, _, [], _, [], hW', trodAll_mk1 (shut_bool Tryd.underlying4 _), (trodAll_cons_mk (Below.trod laidOut (by kernel_rfl) (of_decide_eq_true (by kernel_rfl)) k0 bel lt0) trodAll_mk0), rfl, bel.frame _, fun h => by cases h⟩
theorem over : Rows.recordPutsRow.holds Tryd.pinned (OpenSpec.ofChange Rows.recordPutsSpec) :=
  OpenClaim.holds_of_wide 4 Tryd.f4 rfl rfl rfl rfl rfl rfl rfl ⟨rfl, rfl, rfl, rfl, rfl⟩ rfl rfl rfl rfl rfl (by kernel_rfl) Tryd.func4 (by kernel_rfl)
    (of_decide_eq_true (by kernel_rfl)) (by unfold Func.isWrapper; first | (rw [if_pos (by decide +kernel)]; kernel_rfl) | (rw [if_neg (by decide +kernel)]; exact ⟨rfl, rfl⟩))
    (fun os started H enc _ => lifted os started H enc)
theorem proved : Rows.RecordPutsCardSaid :=
  Claim7.holds_tied_plain_at .later [] [.data, .pinned] true (true, "c852d48a1211bfb985d7cc4751ef4b8564a332a8cc1bb16df13d9ae464ee2da7") false
    over (fun _ h => by cases h) (by kernel_rfl) (fun _ h => by cases h) recordPuts_row_tie rfl ⟨rfl, rfl⟩ (by kernel_rfl) rfl
    (fun f fn hf hfn => by
      obtain rfl : f = 4 := Option.some.inj ((show Tryd.prog.funcNamed "manometer/manometerlaw13.RecordPuts" = some 4 by kernel_rfl).symm.trans hf) |>.symm
      obtain rfl : fn = Tryd.f4 := (Option.some.inj (Tryd.func4.symm.trans hfn)).symm
      exact ⟨by kernel_rfl, fun j t ht => by
        rw [Tryd.params4] at ht
        have hm : t ∈ [29] := by simpa using Array.mem_of_getElem? ht
        have hall : ([29].all fun u => !Tryd.prog.wantsStandIn u) = true := by kernel_rfl
        exact (show Tryd.prog.wantsStandIn t = false by simpa using List.all_eq_true.1 hall t hm)⟩)
    (by kernel_rfl)
end Go.Proofs.YtdckhaejhfkkbaaDoor.recordPuts
