/- A Writer and a Reader that no call made. -/
import Derived.Test.YtemkfkaggdpcjaaB12
import Derived.Test.YtemkfkaggdpcjaaB7
namespace Go.Proofs.Ytemkfkaggdpcjaa
open Go.RowKit Go.Proofs.YtemkfkaggdpcjaaW.PrintWords Go.Proofs.YtemkfkaggdpcjaaW.PrintMore Go.Proofs.YtemkfkaggdpcjaaW.PrintLast Bq
set_option linter.unusedVariables false
set_option linter.unusedSimpArgs false
attribute [local go_sem ↓] Go.wp_at_zero Go.wp_at_succ

/-- No Writer that a call made. -/
def NoW (w : World) (p : Option Addr) : Prop := p = none ∨ ∃ (g : Nat) (n : Int) (v : Value), p = some ⟨g, 0, none⟩ ∧ w.heap[g]? = some (.cells #[.bool false, .int .i64 n, v] 61 (0, 0))
/-- No Reader that a call made. -/
def NoR (w : World) (p : Option Addr) : Prop := p = none ∨ ∃ (g : Nat) (a n : Int) (v : Value), p = some ⟨g, 0, none⟩ ∧ w.heap[g]? = some (.cells #[.bool false, .int .i64 a, .int .i64 n, v] 64 (0, 0))

theorem NoW.ok {w : World} {p : Option Addr} (h : NoW w p) : Calls Try.prog 37 #[.pointer p] w fun e w' => e = .returned (.bool false) ∧ w = w' := by
  rcases h with rfl | ⟨g, n, v, rfl, hg⟩
  · exact wok_nil w
  · exact wok_made w g false n v hg
theorem NoR.ok {w : World} {p : Option Addr} (h : NoR w p) : Calls Try.prog 43 #[.pointer p] w fun e w' => e = .returned (.bool false) ∧ w = w' := by
  rcases h with rfl | ⟨g, a, n, v, rfl, hg⟩
  · exact rok_nil w
  · exact rok_made w g false a n v hg
theorem NoW.below {w w1 : World} {p : Option Addr} (h : NoW w p) (hb : Below w.heap.size w w1) : NoW w1 p := by
  rcases h with rfl | ⟨g, n, v, rfl, hg⟩
  · exact .inl rfl
  · exact .inr ⟨g, n, v, rfl, (hb.block g (blk_lt hg)).trans hg⟩
theorem NoR.below {w w1 : World} {p : Option Addr} (h : NoR w p) (hb : Below w.heap.size w w1) : NoR w1 p := by
  rcases h with rfl | ⟨g, a, n, v, rfl, hg⟩
  · exact .inl rfl
  · exact .inr ⟨g, a, n, v, rfl, (hb.block g (blk_lt hg)).trans hg⟩

theorem noW_put (w : World) (p : Option Addr) (n width : Int) (h : NoW w p) :
    Calls Try.prog 13 #[.pointer p, .int .u64 n, .int .i64 width] w fun e w' => e = .returned (.int .i64 2) ∧ Below w.heap.size w w' := by
  have hm : Below w.heap.size w (((w.alloc (.cells #[.pointer p] 24)).alloc (.cells #[.int .u64 n] 28)).alloc (.cells #[.int .i64 width] 3)) := (((Below.refl _ w).alloc (Nat.le_refl _) _).alloc (by simp) _).alloc (by simp; omega) _
  have h3 := h.below hm
  have bw := blk_alloc (blk_alloc (blk_new w (.cells #[.pointer p] 24)) (.cells #[.int .u64 n] 28)) (.cells #[.int .i64 width] 3)
  go_enter Try.func13, Try.ntmps13
  go_upto_region 1 with fail
  generalize (((w.alloc (.cells #[.pointer p] 24)).alloc (.cells #[.int .u64 n] 28)).alloc (.cells #[.int .i64 width] 3)) = w3 at *
  have c0 : w3.cell? ⟨w.heap.size, 0, none⟩ = some (.pointer p) := (blk_cell bw 0).trans rfl
  have H3 := Lib.hid h3
  have HM := Lib.hid hm
  clear h3 hm h bw
  go_wp2_with (go_at_call 37; refine (H3.out.ok).mono ?_; rintro e w' ⟨rfl, rfl⟩)
  go_ret
  exact ⟨rfl, HM.out⟩
theorem noW_len (w : World) (p : Option Addr) (h : NoW w p) :
    Calls Try.prog 16 #[.pointer p] w fun e w' => e = .returned (.int .i64 0) ∧ w = w' := by
  have H3 := Lib.hid h
  clear h
  go_enter Try.func16, Try.ntmps16
  go_wp2_with (go_at_call 37; refine (H3.out.ok).mono ?_; rintro e w' ⟨rfl, rfl⟩)
  go_ret
  exact ⟨rfl, rfl⟩
theorem noW_bytes (w : World) (p : Option Addr) (h : NoW w p) :
    Calls Try.prog 18 #[.pointer p] w fun e w' => e = .returned (.slice none 0 0) ∧ w = w' := by
  have H3 := Lib.hid h
  clear h
  go_enter Try.func18, Try.ntmps18
  go_wp2_with (go_at_call 37; refine (H3.out.ok).mono ?_; rintro e w' ⟨rfl, rfl⟩)
  go_ret
  exact ⟨rfl, rfl⟩
theorem noW_clone (w : World) (p : Option Addr) (h : NoW w p) :
    Calls Try.prog 12 #[.pointer p] w fun e w' => e = .returned (.pointer none) ∧ w = w' := by
  have H3 := Lib.hid h
  clear h
  go_enter Try.func12, Try.ntmps12
  go_wp2_with (go_at_call 37; refine (H3.out.ok).mono ?_; rintro e w' ⟨rfl, rfl⟩)
  go_ret
  exact ⟨rfl, rfl⟩
theorem noR_get (w : World) (p : Option Addr) (width : Int) (h : NoR w p) :
    Calls Try.prog 30 #[.pointer p, .int .i64 width] w fun e w' => e = .returned (.tuple #[.int .u64 0, .int .i64 2]) ∧ w = w' := by
  have H3 := Lib.hid h
  clear h
  go_enter Try.func30, Try.ntmps30
  go_wp2_with (go_at_call 43; refine (H3.out.ok).mono ?_; rintro e w' ⟨rfl, rfl⟩)
  go_ret2
  exact ⟨rfl, rfl⟩
theorem noR_left (w : World) (p : Option Addr) (h : NoR w p) :
    Calls Try.prog 31 #[.pointer p] w fun e w' => e = .returned (.int .i64 0) ∧ w = w' := by
  have H3 := Lib.hid h
  clear h
  go_enter Try.func31, Try.ntmps31
  go_wp2_with (go_at_call 43; refine (H3.out.ok).mono ?_; rintro e w' ⟨rfl, rfl⟩)
  go_ret
  exact ⟨rfl, rfl⟩
theorem noR_clone (w : World) (p : Option Addr) (h : NoR w p) :
    Calls Try.prog 33 #[.pointer p] w fun e w' => e = .returned (.pointer none) ∧ w = w' := by
  have H3 := Lib.hid h
  clear h
  go_enter Try.func33, Try.ntmps33
  go_wp2_with (go_at_call 43; refine (H3.out.ok).mono ?_; rintro e w' ⟨rfl, rfl⟩)
  go_ret
  exact ⟨rfl, rfl⟩
end Go.Proofs.Ytemkfkaggdpcjaa
