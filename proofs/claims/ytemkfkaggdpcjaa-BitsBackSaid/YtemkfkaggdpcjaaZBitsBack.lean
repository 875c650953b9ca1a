/- BitsBack: the row. -/
import Derived.Test.YtemkfkaggdpcjaaRows
import Derived.WalkKit
import Derived.Test.YtemkfkaggdpcjaaO2
import Derived.Test.YtemkfkaggdpcjaaB24
import Derived.ProofKit
import Derived.OpenShut
import Derived.ShutString
import Derived.ChangeOld
import Derived.Below
namespace Go.Proofs.Ytemkfkaggdpcjaa.bitsBack
open Go.ChangeShapes Go.WideShapes Go.ChangeAt Go.RowKit Go.Proofs.YtemkfkaggdpcjaaW.PrintWords Go.Proofs.YtemkfkaggdpcjaaW.PrintMore Go.Proofs.YtemkfkaggdpcjaaW.PrintLast
open Go.ChangeMaps (open_string shut_string)
set_option linter.unusedVariables false

theorem own : ownKnob Try.prog.godebug = none := by kernel_rfl
theorem laidOut : laidOutB Try.prog = true := by kernel_rfl

theorem walk (w : World) (A0 : Option Addr) (c0 : Nat) (x0 : List (Int × Int)) (l0 : x0.length ≤ c0) (C0 : (Kd.pair (Kd.int .u64) (Kd.int .i64)).C w A0 x0.length x0) (w0 : ∀ y ∈ x0, (fun a => (fun n => (Lit.int .u64 n).wf = true) a.1 ∧ (fun n => (Lit.int .i64 n).wf = true) a.2) y) :
    Calls Try.prog 6 #[.slice A0 x0.length c0] w fun e w' => e = .returned (.bool true) ∧ Below w.heap.size w w' := by
  exact bitsBack_calls w A0 c0 x0 C0 (fun o ho => by
    obtain ⟨h1, h2⟩ := w0 o ho
    obtain ⟨n, e, hn⟩ := wf_u64 h1
    exact ⟨⟨by omega, by omega⟩, wf_i64 h2⟩)

set_option maxRecDepth 100000 in
theorem lifted (os : Os) (started : os.Started) (H : Type) (enc : TypeId × Value → H) :
    ReturnsInHanded {} Try.checked os 6 .any (Rows.bitsBackSpec.pre6 enc Try.prog Try.f6 Rows.bitsBackRow.domain false) (Rows.bitsBackSpec.post enc Try.prog Try.f6 false true false false) := by
  refine returnsInHanded_of_change (C := Try.checked) own started (by kernel_rfl) Try.func6
    (ChangeSpec.witness6 (enc := enc) (C := Try.checked) false ⟨#[], #[.slice none 0 0], []⟩ 8 (by kernel_rfl) (by kernel_rfl) (by kernel_rfl) (by kernel_rfl)) ?_
  intro W base args ds gs before hval0 hW hcnd _
  have hval : ∀ (j : Nat) t v, Try.f6.params[j]? = some t → args[j]? = some v → Value.okWide Try.prog W .any base t v := hval0
  have hW' := hW
  obtain ⟨p, q, hA0, hV, rfl, hfz, hnd⟩ := hW
  have hA : DataW.TrodAll enc Try.prog W 0 (fun _ => true) true Try.f6.params.toList args.toList ds p := hA0
  rw [Try.params6] at hA hval
  obtain ⟨v0, vs0, d0, ds0, p0, q0, hargs, rfl, rfl, h0, r0⟩ := trodAll_cons hA
  obtain ⟨rfl, rfl, rfl⟩ := trodAll_nil r0
  obtain rfl : args = #[v0] := by cases args; simp_all
  obtain ⟨rfl, rfl⟩ := trodVars_none hV
  obtain ⟨A0, len0, c0, rfl⟩ := okWide_slice Try.underlying22 (hval 0 22 v0 rfl rfl)
  have k0 := h0
  have lt0 : ∀ x ∈ p0, x.block < W.heap.size := by obtain ⟨m, hm⟩ := k0; exact DataW.trod_lt m _ _ _ hm
  obtain ⟨x0, rfl, l0, C0, w0⟩ := opens_arg (opens_slice Try.underlying22 (by kernel_rfl) (opens_struct (n := 2) Try.underlying30 (by kernel_rfl) (opens_cons rfl rfl (by kernel_rfl) (of_decide_eq_true (by kernel_rfl)) (opens_int Try.underlying28) (opens_last rfl rfl (by kernel_rfl) (by kernel_rfl) (opens_int Try.underlying3))))) h0
  clear hA0 hval0
  refine (walk W A0 c0 x0 l0 C0 w0).mono fun e W' ⟨he, bel⟩ => ?_
  subst he
  exact ⟨_, rfl, _, _, _, [], _, [], hW', trodAll_mk1 (shut_bool Try.underlying4 _), (trodAll_cons_mk (Below.trod laidOut (by kernel_rfl) (of_decide_eq_true (by kernel_rfl)) k0 bel lt0) trodAll_mk0), rfl, bel.frame _, fun h => by cases h⟩

theorem over : Rows.bitsBackRow.holds Try.pinned (OpenSpec.ofChange Rows.bitsBackSpec) :=
  OpenClaim.holds_of_wide 6 Try.f6 rfl rfl rfl rfl rfl rfl rfl ⟨rfl, rfl, rfl, rfl, rfl⟩ rfl rfl rfl rfl rfl (by kernel_rfl) Try.func6 (by kernel_rfl)
    (of_decide_eq_true (by kernel_rfl)) (by unfold Func.isWrapper; first | (rw [if_pos (by decide +kernel)]; kernel_rfl) | (rw [if_neg (by decide +kernel)]; exact ⟨rfl, rfl⟩))
    (fun os started H enc _ => lifted os started H enc)

/-- The statement. -/
theorem proved : Rows.BitsBackSaid := over
end Go.Proofs.Ytemkfkaggdpcjaa.bitsBack
