/- HashFast: the walk. -/
import Derived.Test.YtclndenmmhdokaaDoorH24
namespace Go.Proofs.YtclndenmmhdokaaDoor
open Go Go.RowKit Go.Proofs.YtclndenmmhdokaaDoorW.PrintWords Go.Proofs.YtclndenmmhdokaaDoorW.PrintMore Go.Proofs.YtclndenmmhdokaaDoorW.PrintLast Bq
set_option linter.unusedVariables false
set_option linter.unusedSimpArgs false
attribute [local go_sem ↓] Go.wp_at_zero Go.wp_at_succ
set_option maxHeartbeats 4000000 in
theorem hashFast_calls (w : World) (A : Option Addr) (c : Nat) (xs : List Int) (hC : (Kd.int .u8).C w A xs.length xs) (hcap : xs.length ≤ c) (hb : Byts xs) (hT : ∀ i, i < 64 → w.cell? ⟨0, i, none⟩ = some (.int .u32 (Sha.K.getD i 0))) :
    Calls Tryd.prog 4 #[.slice A xs.length c] w fun e w' => e = .returned (.bool true) ∧ Below w.heap.size w w' := by
  have HC := Lib.hid hC
  have HB := Lib.hid hb
  have HLIVE := Lib.hid (live_calls w hT)
  clear hC hb hT
  by_cases hs : xs.length ≤ 2000
  · have hsb : shortB [xs] = true := by
      unfold shortB
      simp [hs]
    have HS := Lib.hid hs
    clear hs
    go_enter Tryd.func4, Tryd.ntmps4
    go_wp2_with (first | (go_at_call 12; refine HLIVE.out.mono ?_; rintro e w1 ⟨rfl, hB1⟩; have HB1 := Lib.hid hB1; have hs1 := hB1.size; have hsh := short_calls _ _ 1 [xs] (lit1_C w1 28 A c xs (Kd.C_below HC.out hB1) hcap); rw [hsb] at hsh; have HSH := Lib.hid hsh; clear hB1 hsh) | (go_at_call 13; refine HSH.out.mono ?_; rintro e w2 ⟨rfl, hw2⟩; have hB2 : Below w.heap.size w w2 := (by rw [← hw2]; exact HB1.out.alloc hs1 _); have HB2 := Lib.hid hB2; have hsz2 := hB2.size; have hx := xx_calls w2 A c xs (Kd.C_below HC.out hB2) hcap HB.out (by have := HS.out; omega); have HX := Lib.hid hx; clear hw2 hB2 hx) | (go_at_call 18; refine HX.out.mono ?_; rintro e w3 ⟨rfl, hB3⟩; have b3 : Below w.heap.size w w3 := HB2.out.trans (below_lower hB3 hsz2); have HB3 := Lib.hid b3; have hsz3 := b3.size; have hr := rxx_calls w3 A c xs (Kd.C_below HC.out b3) hcap HB.out (by have := HS.out; omega); have HR := Lib.hid hr; clear hB3 b3 hr) | (go_at_call 19; refine HR.out.mono ?_; rintro e w4 ⟨rfl, hB4⟩; have HB4 := Lib.hid (HB3.out.trans (below_lower hB4 hsz3)); clear hB4))
    go_ret
    exact ⟨rfl, HB4.out⟩
  · have hsb : shortB [xs] = false := by
      unfold shortB
      simp [hs]
    clear hs
    go_enter Tryd.func4, Tryd.ntmps4
    go_wp2_with (first | (go_at_call 12; refine HLIVE.out.mono ?_; rintro e w1 ⟨rfl, hB1⟩; have HB1 := Lib.hid hB1; have hs1 := hB1.size; have hsh := short_calls _ _ 1 [xs] (lit1_C w1 28 A c xs (Kd.C_below HC.out hB1) hcap); rw [hsb] at hsh; have HSH := Lib.hid hsh; clear hB1 hsh) | (go_at_call 13; refine HSH.out.mono ?_; rintro e w2 ⟨rfl, hw2⟩; have hB2 : Below w.heap.size w w2 := (by rw [← hw2]; exact HB1.out.alloc hs1 _); have HB2 := Lib.hid hB2; clear hw2 hB2))
    go_ret
    exact ⟨rfl, HB2.out⟩
end Go.Proofs.YtclndenmmhdokaaDoor
