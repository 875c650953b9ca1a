import Derived.Test.YtdckhaejhfkkbaaDoorRows
import Derived.WalkKit
import Derived.Test.YtdckhaejhfkkbaaDoorCRecordBackO2
import Derived.Test.YtdckhaejhfkkbaaDoorCRecordBackO3
import Derived.ProofKit
import Derived.OpenShut
import Derived.ShutString
import Derived.ChangeOld
import Derived.Below
import Derived.LaidMore
import Derived.Stop.Joined
import Derived.SevenTiedAt
import Derived.Lay
import Derived.LaidOnce
import Derived.Test.YtdckhaejhfkkbaaDoorTie
import Derived.Test.YtdckhaejhfkkbaaDoorCards
namespace Go.Proofs.YtdckhaejhfkkbaaDoor.recordBack
open Go.ChangeShapes Go.WideShapes Go.ChangeAt Go.RowKit Go.Proofs.YtdckhaejhfkkbaaDoor.PRT Go.Proofs.YtdckhaejhfkkbaaDoorW.PrintWords Go.Proofs.YtdckhaejhfkkbaaDoorW.PrintMore Go.Proofs.YtdckhaejhfkkbaaDoorW.PrintLast
open Go.ChangeMaps (open_string shut_string)
set_option linter.unusedVariables false
theorem own : ownKnob Tryd.prog.godebug = none := by kernel_rfl
theorem laidOut : laidOutB Tryd.prog = true := by kernel_rfl
def laid_ : List (String × DataW Unit) := [("unicode/utf8.acceptRanges", Rows.laid_unicode_utf8_acceptRanges), ("unicode/utf8.first", Rows.laid_unicode_utf8_first)]
theorem walk (w : World) (hL : laidMetH Tryd.prog laid_ w) (x0 : S29) (w0 : (fun x : S29 => (fun a => (fun n => (Lit.int .i64 n).wf = true) a.1 ∧ (fun a => (fun n => (Lit.int .u32 n).wf = true) a.1 ∧ (fun a => (fun xs => ∀ x ∈ xs, (fun x : S52 => (fun a => (fun s => s.size ≤ maxLen) a.1 ∧ (fun s => s.size ≤ maxLen) a.2) (x.f0, x.f1)) x) a.1 ∧ (fun xs => ∀ x ∈ xs, (fun x : S45 => (fun a => (fun n => (Lit.int .u32 n).wf = true) a.1 ∧ (fun x : S43 => (fun a => (fun n => (Lit.int .i64 n).wf = true) a.1 ∧ (fun a => (fun n => (Lit.int .u64 n).wf = true) a.1 ∧ (fun n => (Lit.int .u64 n).wf = true) a.2) a.2) (x.f0, x.f1, x.f2)) a.2) (x.f0, x.f1)) x) a.2) a.2) a.2) (x.f0, x.f1, x.f2, x.f3)) x0) (A0_2 : Option Addr) (c0_2 : Nat) (l0_2 : x0.f2.length ≤ c0_2) (C0_2 : k52.C w A0_2 x0.f2.length x0.f2) (A0_3 : Option Addr) (c0_3 : Nat) (l0_3 : x0.f3.length ≤ c0_3) (C0_3 : k45.C w A0_3 x0.f3.length x0.f3) (A1 : Option Addr) (c1 : Nat) (x1 : List Int) (l1 : x1.length ≤ c1) (C1 : (Kd.int .u8).C w A1 x1.length x1) (w1 : ∀ y ∈ x1, (fun n => (Lit.int .u8 n).wf = true) y) (a2 : Int) (w2 : (Lit.int .i64 a2).wf = true) :
    Calls Tryd.prog 7 #[.agg #[.int .i64 x0.f0, .int .u32 x0.f1, .slice A0_2 x0.f2.length c0_2, .slice A0_3 x0.f3.length c0_3], .slice A1 x1.length c1, .int .i64 a2] w fun e w' => e = .returned (.bool true) ∧ Below w.heap.size w w' := by
  obtain ⟨k, h⟩ := Pu.recordBack x0.f0 x0.f1 x0.f2 x0.f3 x1 a2 (fun x hx => wf_u8 (w1 x hx)) (fun x hx => by
    have h0 : 0 ≤ x.f0 ∧ x.f0 < 4294967296 := wf_u32 (w0.2.2.2 x hx).1
    have h1 : -9223372036854775808 ≤ x.f1.f0 ∧ x.f1.f0 ≤ 9223372036854775807 := wf_i64 (w0.2.2.2 x hx).2.1
    obtain ⟨m, hm, hm2⟩ : ∃ m : Nat, x.f1.f1 = m ∧ m < 18446744073709551616 := wf_u64 (w0.2.2.2 x hx).2.2.1
    obtain ⟨q, hq, hq2⟩ : ∃ m : Nat, x.f1.f2 = m ∧ m < 18446744073709551616 := wf_u64 (w0.2.2.2 x hx).2.2.2
    exact ⟨h0, h1, by omega, by omega⟩) (wf_u32 w0.2.1).1 (wf_u32 w0.2.1).2
  exact manometerlaw13_RecordBack.calls k x0.f0 x0.f1 A0_2 c0_2 x0.f2 A0_3 c0_3 x0.f3 (fun k => k < w.heap.size) A1 c1 x1 a2 true w ⟨tab_of hL⟩ C0_2 l0_2 C0_3 l0_3 (Kd.V_mk l1 (Kd.C_F (Kd.heap_int .u8) C1)) h
set_option maxRecDepth 100000 in
theorem lifted (os : Os) (started : os.Started) (H : Type) (enc : TypeId × Value → H) :
    ReturnsInHanded {} Tryd.checked os 7 .any (fun w args => (Rows.recordBackSpec.pre enc Tryd.prog Tryd.f7 [] false w args ∧ laidMetH Tryd.prog laid_ w) ∧ sizedMet enc Tryd.prog Tryd.f7 (OpenSpec.ofChange Rows.recordBackSpec) false w args) (Rows.recordBackSpec.post enc Tryd.prog Tryd.f7 false true false false) := by
  refine returnsInHanded_of_change_and (C := Tryd.checked) (X := fun w _ => laidMetH Tryd.prog laid_ w) (fun _ _ _ hh h => h.of_heap hh) own started (by kernel_rfl) Tryd.func7
    (ChangeSpec.witness_shaped (enc := enc) (C := Tryd.checked) (os := os) (X := fun w _ => laidMetH Tryd.prog laid_ w) false (World.laidAll Tryd.prog os laid_) #[.agg #[.int .i64 0, .int .u32 0, .slice none 0 0, .slice none 0 0], .slice none 0 0, .int .i64 0] 8 (World.laidAll_os _ _ _) (World.shaped_of_ZipB (by kernel_rfl) (by kernel_rfl)) (by kernel_rfl) (by kernel_rfl) (by kernel_rfl) (by rw [MakeChecks.laidMetH_plain _ _ _ (by kernel_rfl)]; exact laidMet_laidAll _ (by kernel_rfl) (by kernel_rfl))) ?_
  intro W base args ds gs before hval0 hW hcnd _ hL _
  have hval : ∀ (j : Nat) t v, Tryd.f7.params[j]? = some t → args[j]? = some v → Value.okWide Tryd.prog W .any base t v := hval0
  have hW' := hW
  obtain ⟨p, q, hA0, hV, rfl, hfz, hnd⟩ := hW
  have hA : DataW.TrodAll enc Tryd.prog W 0 (fun _ => true) true Tryd.f7.params.toList args.toList ds p := hA0
  rw [Tryd.params7] at hA hval
  obtain ⟨v0, vs0, d0, ds0, p0, q0, hargs, rfl, rfl, h0, r0⟩ := trodAll_cons hA
  obtain ⟨v1, vs1, d1, ds1, p1, q1, rfl, rfl, rfl, h1, r1⟩ := trodAll_cons r0
  obtain ⟨v2, vs2, d2, ds2, p2, q2, rfl, rfl, rfl, h2, r2⟩ := trodAll_cons r1
  obtain ⟨rfl, rfl, rfl⟩ := trodAll_nil r2
  obtain rfl : args = #[v0, v1, v2] := by cases args; simp_all
  obtain ⟨rfl, rfl⟩ := trodVars_none hV
  obtain ⟨cs0, rfl, hsz0⟩ := okWide_struct Tryd.underlying29 (hval 0 29 v0 rfl rfl)
  have k0 := h0
  have lt0 : ∀ x ∈ p0, x.block < W.heap.size := by obtain ⟨m, hm⟩ := k0; exact DataW.trod_lt m _ _ _ hm
  obtain ⟨x0, hK0, w0⟩ := opens_val (opens_iso (fun x : S29 => (x.f0, x.f1, x.f2, x.f3)) (fun y => (⟨y.1, y.2.1, y.2.2.1, y.2.2.2⟩ : S29)) (fun y => rfl) (opens_struct (n := 4) Tryd.underlying29 (by kernel_rfl) (opens_cons rfl rfl (by kernel_rfl) (of_decide_eq_true (by kernel_rfl)) (opens_int Tryd.underlying3) (opens_cons rfl rfl (by kernel_rfl) (of_decide_eq_true (by kernel_rfl)) (opens_int Tryd.underlying24) (opens_cons rfl rfl (by kernel_rfl) (of_decide_eq_true (by kernel_rfl)) (opens_slice Tryd.underlying26 (by kernel_rfl) (opens_iso (fun x : S52 => (x.f0, x.f1)) (fun y => (⟨y.1, y.2⟩ : S52)) (fun y => rfl) (opens_struct (n := 2) Tryd.underlying52 (by kernel_rfl) (opens_cons rfl rfl (by kernel_rfl) (of_decide_eq_true (by kernel_rfl)) (opens_string Tryd.underlying9) (opens_last rfl rfl (by kernel_rfl) (by kernel_rfl) (opens_string Tryd.underlying9)))))) (opens_last rfl rfl (by kernel_rfl) (by kernel_rfl) (opens_slice Tryd.underlying27 (by kernel_rfl) (opens_iso (fun x : S45 => (x.f0, x.f1)) (fun y => (⟨y.1, y.2⟩ : S45)) (fun y => rfl) (opens_struct (n := 4) Tryd.underlying45 (by kernel_rfl) (opens_cons rfl rfl (by kernel_rfl) (of_decide_eq_true (by kernel_rfl)) (opens_int Tryd.underlying24) (opens_last rfl rfl (by kernel_rfl) (by kernel_rfl) (opens_iso (fun x : S43 => (x.f0, x.f1, x.f2)) (fun y => (⟨y.1, y.2.1, y.2.2⟩ : S43)) (fun y => rfl) (opens_struct (n := 3) Tryd.underlying43 (by kernel_rfl) (opens_cons rfl rfl (by kernel_rfl) (of_decide_eq_true (by kernel_rfl)) (opens_int Tryd.underlying2) (opens_cons rfl rfl (by kernel_rfl) (of_decide_eq_true (by kernel_rfl)) (opens_int Tryd.underlying41) (opens_last rfl rfl (by kernel_rfl) (by kernel_rfl) (opens_int Tryd.underlying41))))))))))))))))) h0
  obtain ⟨A0_2, c0_2, A0_3, c0_3, hcs0, l0_2, C0_2, l0_3, C0_3⟩ := k29_open hK0
  obtain rfl : cs0 = #[.int .i64 x0.f0, .int .u32 x0.f1, .slice A0_2 x0.f2.length c0_2, .slice A0_3 x0.f3.length c0_3] := Array.toList_inj.1 hcs0
  obtain ⟨A1, len1, c1, rfl⟩ := okWide_slice Tryd.underlying22 (hval 1 22 v1 rfl rfl)
  have k1 := h1
  have lt1 : ∀ x ∈ p1, x.block < W.heap.size := by obtain ⟨m, hm⟩ := k1; exact DataW.trod_lt m _ _ _ hm
  obtain ⟨x1, rfl, l1, C1, w1⟩ := opens_arg (opens_slice Tryd.underlying22 (by kernel_rfl) (opens_int Tryd.underlying5)) h1
  obtain ⟨a2, rfl, rfl, rfl, w2⟩ := open_int Tryd.underlying3 (hval 2 3 v2 rfl rfl) h2
  clear hA0 hval0
  refine (walk W hL x0 w0 A0_2 c0_2 l0_2 C0_2 A0_3 c0_3 l0_3 C0_3 A1 c1 x1 l1 C1 w1 a2 w2).mono fun e W' ⟨he, bel⟩ => ?_
  subst he
  exact ⟨_, rfl, _, _, _, [], _, [], hW', trodAll_mk1 (shut_bool Tryd.underlying4 _), (trodAll_cons_mk (Below.trod laidOut (by kernel_rfl) (of_decide_eq_true (by kernel_rfl)) k0 bel lt0) (trodAll_cons_mk (Below.trod laidOut (by kernel_rfl) (of_decide_eq_true (by kernel_rfl)) k1 bel lt1) (trodAll_cons_mk (shut_int Tryd.underlying3 w2) trodAll_mk0))), rfl, bel.frame _, fun h => by cases h⟩
theorem over : Rows.recordBackRow.holds Tryd.pinned (OpenSpec.ofChange Rows.recordBackSpec) :=
  OpenClaim.holds_of_wide 7 Tryd.f7 rfl rfl rfl rfl rfl rfl rfl ⟨rfl, rfl, rfl, rfl, rfl⟩ rfl rfl rfl rfl rfl (by kernel_rfl) Tryd.func7 (by kernel_rfl)
    (of_decide_eq_true (by kernel_rfl)) (by unfold Func.isWrapper; first | (rw [if_pos (by decide +kernel)]; kernel_rfl) | (rw [if_neg (by decide +kernel)]; exact ⟨rfl, rfl⟩))
    (fun os started H enc _ => lifted os started H enc)
theorem proved : Rows.RecordBackCardSaid :=
  Claim7.holds_tied_plain_at .later [] [.data, .pinned] true (true, "c852d48a1211bfb985d7cc4751ef4b8564a332a8cc1bb16df13d9ae464ee2da7") false
    over (fun _ h => by cases h) (by kernel_rfl) (fun _ h => by cases h) recordBack_row_tie rfl ⟨rfl, rfl⟩ (by kernel_rfl) rfl
    (fun f fn hf hfn => by
      obtain rfl : f = 7 := Option.some.inj ((show Tryd.prog.funcNamed "manometer/manometerlaw13.RecordBack" = some 7 by kernel_rfl).symm.trans hf) |>.symm
      obtain rfl : fn = Tryd.f7 := (Option.some.inj (Tryd.func7.symm.trans hfn)).symm
      exact ⟨by kernel_rfl, fun j t ht => by
        rw [Tryd.params7] at ht
        have hm : t ∈ [29, 22, 3] := by simpa using Array.mem_of_getElem? ht
        have hall : ([29, 22, 3].all fun u => !Tryd.prog.wantsStandIn u) = true := by kernel_rfl
        exact (show Tryd.prog.wantsStandIn t = false by simpa using List.all_eq_true.1 hall t hm)⟩)
    (by kernel_rfl)
end Go.Proofs.YtdckhaejhfkkbaaDoor.recordBack
