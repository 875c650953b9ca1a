/- Arrays of 32 bytes, held against one another. -/
import Derived.Test.YtclndenmmhdokaaDoorHA
import Derived.Test.YtclndenmmhdokaaDoorQB
import Derived.Stop.BytesEq
namespace Go.Proofs.YtclndenmmhdokaaDoor
open Go Go.RowKit Go.Proofs.YtclndenmmhdokaaDoorW.PrintWords Go.Proofs.YtclndenmmhdokaaDoorW.PrintMore Go.Proofs.YtclndenmmhdokaaDoorW.PrintLast Bq
set_option linter.unusedVariables false
set_option linter.unusedSimpArgs false
def u8s (xs : List Int) : List UInt8 := xs.map fun x => UInt8.ofNat x.toNat
theorem u8s_cells (xs : List Int) (h : Byts xs) : (u8s xs).map Extern.Stop.cell = nums .u8 xs := by
  unfold u8s nums
  rw [List.map_map]
  apply List.map_congr_left
  intro x hx
  have hb := h x hx
  show Extern.Stop.cell (UInt8.ofNat x.toNat) = Value.int .u8 x
  unfold Extern.Stop.cell
  congr 1
  have : (UInt8.ofNat x.toNat).toNat = x.toNat := by
    rw [UInt8.toNat_ofNat']
    omega
  rw [this]
  show ((x.toNat : Nat) : Int) = x
  omega
theorem u8s_inj : ∀ (xs ys : List Int), Byts xs → Byts ys → u8s xs = u8s ys → xs = ys
  | [], [], _, _, _ => rfl
  | [], _ :: _, _, _, h => by simp [u8s] at h
  | _ :: _, [], _, _, h => by simp [u8s] at h
  | x :: xs, y :: ys, hx, hy, h => by
    have h1 : UInt8.ofNat x.toNat = UInt8.ofNat y.toNat ∧ u8s xs = u8s ys := by simpa [u8s] using h
    have hxb := hx x (List.mem_cons_self ..)
    have hyb := hy y (List.mem_cons_self ..)
    have h2 := congrArg UInt8.toNat h1.1
    rw [UInt8.toNat_ofNat', UInt8.toNat_ofNat'] at h2
    have e : x = y := by omega
    rw [e, u8s_inj xs ys (fun z hz => hx z (List.mem_cons_of_mem _ hz)) (fun z hz => hy z (List.mem_cons_of_mem _ hz)) h1.2]
theorem arr_eq (W : World) (xs ys : List Int) (hx : xs.length = 32) (hy : ys.length = 32) (hbx : Byts xs) (hby : Byts ys) :
    Sem.run Tryd.prog (Op.equalIn 10000 25 (.agg (nums .u8 xs).toArray) (.agg (nums .u8 ys).toArray)) W = .ok (decide (xs = ys)) W := by
  have hsz : ∀ w : World, (sizeOf 5).run Tryd.prog w = .ok 1 w := by
    intro w
    have e : (Tryd.prog.info? 5).map (·.size) = some 1 := by kernel_rfl
    obtain ⟨i, hi, hs⟩ := Option.map_eq_some_iff.1 e
    simp [sizeOf, typeInfo, hi, hs]
  have h := run_equalIn_bytes (P := Tryd.prog) W 9998 25 5 32 Tryd.underlying25 Tryd.underlying5 hsz (u8s xs) (u8s ys) (by simp [u8s, hx]) (by simp [u8s, hy])
  rw [u8s_cells xs hbx, u8s_cells ys hby] at h
  refine h.trans ?_
  congr 1
  by_cases e : xs = ys
  · subst e
    simp
  · rw [decide_eq_false e]
    have : u8s xs ≠ u8s ys := fun h => e (u8s_inj xs ys hbx hby h)
    simpa using this
end Go.Proofs.YtclndenmmhdokaaDoor
