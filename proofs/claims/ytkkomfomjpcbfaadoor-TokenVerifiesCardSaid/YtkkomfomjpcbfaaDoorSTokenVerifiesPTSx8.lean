import Derived.Test.YtkkomfomjpcbfaaDoorSTokenVerifiesH14
import Derived.Test.YtkkomfomjpcbfaaDoorSTokenVerifiesPTSx1
import Derived.Test.YtkkomfomjpcbfaaDoorSTokenVerifiesPTSx2
import Derived.Test.YtkkomfomjpcbfaaDoorSTokenVerifiesPTSx7
import Derived.Laws.RangeAny
import Derived.Lib.OthersKept
import Derived.Test.YtkkomfomjpcbfaaDoorSTokenVerifiesE1
import Derived.Test.YtkkomfomjpcbfaaDoorSTokenVerifiesWGuard
import Derived.Test.YtkkomfomjpcbfaaDoorSTokenVerifiesTM
import Derived.Test.YtkkomfomjpcbfaaDoorSTokenVerifiesTT
import Derived.Test.YtkkomfomjpcbfaaDoorSTokenVerifiesY
set_option linter.unusedVariables false
set_option linter.unusedSimpArgs false
namespace Go.Proofs.YtkkomfomjpcbfaaDoor.PTS
open Go.RowKit Go.Proofs.YtkkomfomjpcbfaaDoorW.PrintWords Go.Proofs.YtkkomfomjpcbfaaDoorW.PrintLast Go.Proofs.YtkkomfomjpcbfaaDoorW.PrintMore
attribute [local go_sem] kQ kO kW kV kG kF kP kN
attribute [local go_sem high] eqA26
def ml17_live.f (k : Nat)  : Option (Bool) := (token_Mint.f k 1 (⟨#[48, 49, 50, 51, 52, 53, 54, 55, 56, 57, 97, 98, 99, 100, 101, 102]⟩ : ByteArray) (⟨#[97]⟩ : ByteArray) 1 10 3 1).bind fun bt190 => ((token_Verify.f k bt190.1 (([(⟨(⟨#[97]⟩ : ByteArray), (⟨1, (⟨#[48, 49, 50, 51, 52, 53, 54, 55, 56, 57, 97, 98, 99, 100, 101, 102]⟩ : ByteArray)⟩ : S23)⟩ : S43)] : List (S43))) 9 2).bind fun bt195 => ((token_Verify.f k bt190.1 (([(⟨(⟨#[97]⟩ : ByteArray), (⟨1, (⟨#[48, 49, 50, 51, 52, 53, 54, 55, 56, 57, 97, 98, 99, 100, 101, 102]⟩ : ByteArray)⟩ : S23)⟩ : S43)] : List (S43))) 10 2).bind fun bt205 => (if bt190.2 = 0 then (if (bt190.1.size : Int) = 56 then (if 0 ≤ 13 then (if 13 ≤ (bt190.1.size : Int) then (if (bt190.1.extract 0 13).toList = ([109, 116, 49, 46, 65, 87, 69, 66, 70, 65, 77, 66, 46] : List UInt8) then (if bt195.2.2.2.2.2 = 0 then (if (bt195.1.toList == ([97] : List UInt8) && (bt195.2.1 == 1 && (bt195.2.2.1 == 10 && (bt195.2.2.2.1 == 3 && (bt195.2.2.2.2.1 == 1))))) = true then (some (bt205.2.2.2.2.2 == 171)) else (some false)) else (some false)) else (some false)) else (none)) else (none)) else (some false)) else (some false))))
theorem ml17_live.mono : ∀ k, LeO (ml17_live.f k ) (ml17_live.f (k + 1) ) := by
 intro  k
 unfold ml17_live.f
 repeat' first
   | (with_reducible exact token_Mint.mono _ _ _ _ _ _ _ _)
   | (with_reducible exact token_Verify.mono _ _ _ _ _)
   | (with_reducible exact LeO.refl _)
   | (with_reducible exact LeO.none _)
   | (with_reducible refine LeO.ite ?_ ?_)
   | (with_reducible refine LeO.bind ?_ (fun _ => ?_))
   | exact token_Mint.mono _ _ _ _ _ _ _ _
   | exact token_Verify.mono _ _ _ _ _
   | exact LeO.none _
   | refine LeO.ite ?_ ?_
   | refine LeO.bind ?_ (fun _ => ?_)
set_option maxHeartbeats 8000000 in
set_option maxRecDepth 100000 in
theorem ml17_live.calls (k : Nat)  (r : Bool) (w : World) (hT : Aside0 (Tab w)) (h : ml17_live.f k  = some r) :
  Calls Tryd.prog 9 #[] w fun e w' => e = .returned (.bool r) ∧ Below w.heap.size w w' := by
 have hu23 := Tryd.underlying23; have hu26 := Tryd.underlying26; have hu43 := Tryd.underlying43; have HB := am_ (Below.refl w.heap.size w); have H : ((token_Mint.f k 1 (⟨#[48, 49, 50, 51, 52, 53, 54, 55, 56, 57, 97, 98, 99, 100, 101, 102]⟩ : ByteArray) (⟨#[97]⟩ : ByteArray) 1 10 3 1).bind fun bt190 => ((token_Verify.f k bt190.1 (([(⟨(⟨#[97]⟩ : ByteArray), (⟨1, (⟨#[48, 49, 50, 51, 52, 53, 54, 55, 56, 57, 97, 98, 99, 100, 101, 102]⟩ : ByteArray)⟩ : S23)⟩ : S43)] : List (S43))) 9 2).bind fun bt195 => ((token_Verify.f k bt190.1 (([(⟨(⟨#[97]⟩ : ByteArray), (⟨1, (⟨#[48, 49, 50, 51, 52, 53, 54, 55, 56, 57, 97, 98, 99, 100, 101, 102]⟩ : ByteArray)⟩ : S23)⟩ : S43)] : List (S43))) 10 2).bind fun bt205 => (if bt190.2 = 0 then (if (bt190.1.size : Int) = 56 then (if 0 ≤ 13 then (if 13 ≤ (bt190.1.size : Int) then (if (bt190.1.extract 0 13).toList = ([109, 116, 49, 46, 65, 87, 69, 66, 70, 65, 77, 66, 46] : List UInt8) then (if bt195.2.2.2.2.2 = 0 then (if (bt195.1.toList == ([97] : List UInt8) && (bt195.2.1 == 1 && (bt195.2.2.1 == 10 && (bt195.2.2.2.1 == 3 && (bt195.2.2.2.2.1 == 1))))) = true then (some (bt205.2.2.2.2.2 == 171)) else (some false)) else (some false)) else (some false)) else (none)) else (none)) else (some false)) else (some false))))) = some r := h; clear h; replace H := Option.bind_eq_some_iff.mp H; obtain ⟨⟨t190, t191⟩, A10, H⟩ := H; replace H : ((token_Verify.f k t190 (([(⟨(⟨#[97]⟩ : ByteArray), (⟨1, (⟨#[48, 49, 50, 51, 52, 53, 54, 55, 56, 57, 97, 98, 99, 100, 101, 102]⟩ : ByteArray)⟩ : S23)⟩ : S43)] : List (S43))) 9 2).bind fun bt195 => ((token_Verify.f k t190 (([(⟨(⟨#[97]⟩ : ByteArray), (⟨1, (⟨#[48, 49, 50, 51, 52, 53, 54, 55, 56, 57, 97, 98, 99, 100, 101, 102]⟩ : ByteArray)⟩ : S23)⟩ : S43)] : List (S43))) 10 2).bind fun bt205 => (if t191 = 0 then (if (t190.size : Int) = 56 then (if 0 ≤ 13 then (if 13 ≤ (t190.size : Int) then (if (t190.extract 0 13).toList = ([109, 116, 49, 46, 65, 87, 69, 66, 70, 65, 77, 66, 46] : List UInt8) then (if bt195.2.2.2.2.2 = 0 then (if (bt195.1.toList == ([97] : List UInt8) && (bt195.2.1 == 1 && (bt195.2.2.1 == 10 && (bt195.2.2.2.1 == 3 && (bt195.2.2.2.2.1 == 1))))) = true then (some (bt205.2.2.2.2.2 == 171)) else (some false)) else (some false)) else (some false)) else (none)) else (none)) else (some false)) else (some false)))) = some r := H; have A1 := Aside0.mk A10; clear A10; obtain ⟨y192, hy192⟩ : ∃ y_ : List (S43), y_ = (([(⟨(⟨#[97]⟩ : ByteArray), (⟨1, (⟨#[48, 49, 50, 51, 52, 53, 54, 55, 56, 57, 97, 98, 99, 100, 101, 102]⟩ : ByteArray)⟩ : S23)⟩ : S43)] : List (S43))) := ⟨_, rfl⟩
 replace H : ((token_Verify.f k t190 y192 9 2).bind fun bt195 => ((token_Verify.f k t190 (([(⟨(⟨#[97]⟩ : ByteArray), (⟨1, (⟨#[48, 49, 50, 51, 52, 53, 54, 55, 56, 57, 97, 98, 99, 100, 101, 102]⟩ : ByteArray)⟩ : S23)⟩ : S43)] : List (S43))) 10 2).bind fun bt205 => (if t191 = 0 then (if (t190.size : Int) = 56 then (if 0 ≤ 13 then (if 13 ≤ (t190.size : Int) then (if (t190.extract 0 13).toList = ([109, 116, 49, 46, 65, 87, 69, 66, 70, 65, 77, 66, 46] : List UInt8) then (if bt195.2.2.2.2.2 = 0 then (if (bt195.1.toList == ([97] : List UInt8) && (bt195.2.1 == 1 && (bt195.2.2.1 == 10 && (bt195.2.2.2.1 == 3 && (bt195.2.2.2.2.1 == 1))))) = true then (some (bt205.2.2.2.2.2 == 171)) else (some false)) else (some false)) else (some false)) else (none)) else (none)) else (some false)) else (some false)))) = some r := by first | (rw [hy192]; with_reducible exact H) | (have H2_ := (Option.bind_some _ _).symm.trans H; rw [hy192]; with_reducible exact H2_) | (have H2_ := (Option.bind_some _ _).symm.trans H; with_reducible exact H2_) | with_reducible exact H | (rw [hy192]; exact H) | exact H
 have Ny192 := Aside0.mk hy192; clear hy192; replace H := Option.bind_eq_some_iff.mp H; obtain ⟨⟨t195, t196, t197, t198, t199, t200⟩, A20, H⟩ := H; replace H : ((token_Verify.f k t190 (([(⟨(⟨#[97]⟩ : ByteArray), (⟨1, (⟨#[48, 49, 50, 51, 52, 53, 54, 55, 56, 57, 97, 98, 99, 100, 101, 102]⟩ : ByteArray)⟩ : S23)⟩ : S43)] : List (S43))) 10 2).bind fun bt205 => (if t191 = 0 then (if (t190.size : Int) = 56 then (if 0 ≤ 13 then (if 13 ≤ (t190.size : Int) then (if (t190.extract 0 13).toList = ([109, 116, 49, 46, 65, 87, 69, 66, 70, 65, 77, 66, 46] : List UInt8) then (if t200 = 0 then (if (t195.toList == ([97] : List UInt8) && (t196 == 1 && (t197 == 10 && (t198 == 3 && (t199 == 1))))) = true then (some (bt205.2.2.2.2.2 == 171)) else (some false)) else (some false)) else (some false)) else (none)) else (none)) else (some false)) else (some false))) = some r := H; have A2 := Aside0.mk A20; clear A20; obtain ⟨y202, hy202⟩ : ∃ y_ : List (S43), y_ = (([(⟨(⟨#[97]⟩ : ByteArray), (⟨1, (⟨#[48, 49, 50, 51, 52, 53, 54, 55, 56, 57, 97, 98, 99, 100, 101, 102]⟩ : ByteArray)⟩ : S23)⟩ : S43)] : List (S43))) := ⟨_, rfl⟩
 replace H : ((token_Verify.f k t190 y202 10 2).bind fun bt205 => (if t191 = 0 then (if (t190.size : Int) = 56 then (if 0 ≤ 13 then (if 13 ≤ (t190.size : Int) then (if (t190.extract 0 13).toList = ([109, 116, 49, 46, 65, 87, 69, 66, 70, 65, 77, 66, 46] : List UInt8) then (if t200 = 0 then (if (t195.toList == ([97] : List UInt8) && (t196 == 1 && (t197 == 10 && (t198 == 3 && (t199 == 1))))) = true then (some (bt205.2.2.2.2.2 == 171)) else (some false)) else (some false)) else (some false)) else (none)) else (none)) else (some false)) else (some false))) = some r := by first | (rw [hy202]; with_reducible exact H) | (have H2_ := (Option.bind_some _ _).symm.trans H; rw [hy202]; with_reducible exact H2_) | (have H2_ := (Option.bind_some _ _).symm.trans H; with_reducible exact H2_) | with_reducible exact H | (rw [hy202]; exact H) | exact H
 have Ny202 := Aside0.mk hy202; clear hy202; replace H := Option.bind_eq_some_iff.mp H; obtain ⟨⟨t205, t206, t207, t208, t209, t210⟩, A30, H⟩ := H; replace H : (if t191 = 0 then (if (t190.size : Int) = 56 then (if 0 ≤ 13 then (if 13 ≤ (t190.size : Int) then (if (t190.extract 0 13).toList = ([109, 116, 49, 46, 65, 87, 69, 66, 70, 65, 77, 66, 46] : List UInt8) then (if t200 = 0 then (if (t195.toList == ([97] : List UInt8) && (t196 == 1 && (t197 == 10 && (t198 == 3 && (t199 == 1))))) = true then (some (t210 == 171)) else (some false)) else (some false)) else (some false)) else (none)) else (none)) else (some false)) else (some false)) = some r := H; have A3 := Aside0.mk A30; clear A30; go_enter Tryd.func9, Tryd.ntmps9
 go_upto_region 6 with (first | ((with_reducible refine ko (N := 1) rfl ?_); (try (refine kx (by rfl) ?_; dsimp only)); refine kn ?hg (N := 1) ?hd (cs := #[.int .i64 0, .string (⟨#[]⟩ : ByteArray)]) (t := 23) ?hr ?_; (case hd => rfl); (case hg => rfl); (case hr => first | (go_simp; done) | (go_simp; rfl)); intro gb188 hg w11 hbox hb; have BK188 := am_ (hbox); have GW188 := am_ ((y31_ : w.heap.size ≤ gb188)); have GE188 := am_ ((y31_ : w.heap.size ≤ gb188)); replace HB := am_ (ke y1_ hb); clear hb hbox hg; obtain ⟨hcz12_0, hcz12_1, hfz12_0, hfz12_1⟩ := pd2_ BK188.out) | ((with_reducible refine ko (N := 2) rfl ?_); (try (refine kx (by rfl) ?_; dsimp only)); refine kn ?hg (N := 2) ?hd (cs := #[.string (⟨#[]⟩ : ByteArray), .int .i64 0, .int .i64 0, .int .u8 0, .int .u64 0]) (t := 26) ?hr ?_; (case hd => rfl); (case hg => rfl); (case hr => first | (go_simp; done) | (go_simp; rfl)); intro gb189 hg w13 hbox hb; have BK189 := am_ (hbox); have GW189 := am_ ((by rw [hg]; exact (km y115_) : w.heap.size ≤ gb189)); have GE189 := am_ ((by rw [hg]; exact (km y115_) : w.heap.size ≤ gb189)); replace HB := am_ (ke y115_ hb); have NB188_189 := am_ ((by rw [hg]; exact Nat.ne_of_lt (ky (g := gb188) (o := .cells #[.int .i64 1, .string (⟨#[48, 49, 50, 51, 52, 53, 54, 55, 56, 57, 97, 98, 99, 100, 101, 102]⟩ : ByteArray)] 23 (0, 0)) y58_) : gb188 ≠ gb189)); have NB189_188 := am_ ((by rw [hg]; exact Nat.ne_of_gt (ky (g := gb188) (o := .cells #[.int .i64 1, .string (⟨#[48, 49, 50, 51, 52, 53, 54, 55, 56, 57, 97, 98, 99, 100, 101, 102]⟩ : ByteArray)] 23 (0, 0)) y58_) : gb189 ≠ gb188)); replace BK188 := am_ (ki (g := gb188) (o := .cells #[.int .i64 1, .string (⟨#[48, 49, 50, 51, 52, 53, 54, 55, 56, 57, 97, 98, 99, 100, 101, 102]⟩ : ByteArray)] 23 (0, 0)) y58_ hb); clear hb hbox hg; have hnb14 := NB189_188.out; have hnc14 := NB188_189.out; obtain ⟨hcz15_0, hcz15_1, hcz15_2, hcz15_3, hcz15_4, hfz15_0, hfz15_1, hfz15_2, hfz15_3, hfz15_4⟩ := pd5_ BK189.out; obtain ⟨hcz16_0, hcz16_1, hfz16_0, hfz16_1⟩ := pd2_ BK188.out) | ((with_reducible refine kj (f := 10) rfl ?_); refine kw (some 14) rfl rfl Tryd.func10 (by kernel_rfl) rfl #[.agg #[.int .i64 1, .string (⟨#[48, 49, 50, 51, 52, 53, 54, 55, 56, 57, 97, 98, 99, 100, 101, 102]⟩ : ByteArray)], .agg #[.string (⟨#[97]⟩ : ByteArray), .int .i64 1, .int .i64 10, .int .u8 3, .int .u64 1]] rfl y2_ ?_; (with_reducible refine (token_Mint.calls k 1 (⟨#[48, 49, 50, 51, 52, 53, 54, 55, 56, 57, 97, 98, 99, 100, 101, 102]⟩ : ByteArray) (⟨#[97]⟩ : ByteArray) 1 10 3 1 t190 t191 _ ?side1 A1.out).mono ?_); (case side1 => exact ⟨kU hT.out y38_⟩); rintro e w17 ⟨rfl, hb⟩; refine ⟨_, rfl, ?_⟩; replace BK188 := am_ (ki (g := gb188) (o := .cells #[.int .i64 1, .string (⟨#[48, 49, 50, 51, 52, 53, 54, 55, 56, 57, 97, 98, 99, 100, 101, 102]⟩ : ByteArray)] 23 (0, 0)) (by (with_reducible repeat (first | refine kf ?_ _ | refine kg ?_ | refine kd ?_ _)); refine kB ?_ NB188_189.out _; (with_reducible repeat (first | refine kf ?_ _ | refine kg ?_ | refine kd ?_ _)); refine kB ?_ NB188_189.out _; (with_reducible repeat (first | refine kf ?_ _ | refine kg ?_ | refine kd ?_ _)); refine kB ?_ NB188_189.out _; (with_reducible repeat (first | refine kf ?_ _ | refine kg ?_ | refine kd ?_ _)); refine kB ?_ NB188_189.out _; (with_reducible repeat (first | refine kf ?_ _ | refine kg ?_ | refine kd ?_ _)); refine kB ?_ NB188_189.out _; (with_reducible repeat (first | refine kf ?_ _ | refine kg ?_ | refine kd ?_ _)); exact BK188.out) hb); replace BK189 := am_ (ki (g := gb189) (o := .cells #[.string (⟨#[97]⟩ : ByteArray), .int .i64 1, .int .i64 10, .int .u8 3, .int .u64 1] 26 (0, 0)) (by (with_reducible repeat (first | refine kf ?_ _ | refine kg ?_ | refine kd ?_ _)); refine kp (cs := #[.string (⟨#[97]⟩ : ByteArray), .int .i64 1, .int .i64 10, .int .u8 3, .int .u64 0]) ?_ 4 _ rfl; (with_reducible repeat (first | refine kf ?_ _ | refine kg ?_ | refine kd ?_ _)); refine kp (cs := #[.string (⟨#[97]⟩ : ByteArray), .int .i64 1, .int .i64 10, .int .u8 0, .int .u64 0]) ?_ 3 _ rfl; (with_reducible repeat (first | refine kf ?_ _ | refine kg ?_ | refine kd ?_ _)); refine kp (cs := #[.string (⟨#[97]⟩ : ByteArray), .int .i64 1, .int .i64 0, .int .u8 0, .int .u64 0]) ?_ 2 _ rfl; (with_reducible repeat (first | refine kf ?_ _ | refine kg ?_ | refine kd ?_ _)); refine kp (cs := #[.string (⟨#[97]⟩ : ByteArray), .int .i64 0, .int .i64 0, .int .u8 0, .int .u64 0]) ?_ 1 _ rfl; (with_reducible repeat (first | refine kf ?_ _ | refine kg ?_ | refine kd ?_ _)); refine kp (cs := #[.string (⟨#[]⟩ : ByteArray), .int .i64 0, .int .i64 0, .int .u8 0, .int .u64 0]) ?_ 0 _ rfl; (with_reducible repeat (first | refine kf ?_ _ | refine kg ?_ | refine kd ?_ _)); exact BK189.out) hb); replace HB := am_ (ke y38_ hb); (try clear hb); (try clear hb2); (try clear hk); (try clear hi); obtain ⟨hcz18_0, hcz18_1, hfz18_0, hfz18_1⟩ := pd2_ BK188.out) | ((with_reducible refine ko (N := 21) rfl ?_); (try (refine kx (by rfl) ?_; dsimp only)); refine Kd.R_lit k43 _ 43 ?hg (N := 21) ?hd (xs := ([(⟨(⟨#[97]⟩ : ByteArray), (⟨1, (⟨#[48, 49, 50, 51, 52, 53, 54, 55, 56, 57, 97, 98, 99, 100, 101, 102]⟩ : ByteArray)⟩ : S23)⟩ : S43)] : List (S43))) (inner := [.string (⟨#[97]⟩ : ByteArray), .int .i64 1, .string (⟨#[48, 49, 50, 51, 52, 53, 54, 55, 56, 57, 97, 98, 99, 100, 101, 102]⟩ : ByteArray)]) (ok := fun _ => True) (okp := fun _ => True) ?hr ?hp (fun _ hk => hk) trivial (Below.refl _ _) (Nat.le_refl _) (by simp) ?_; (case hd => rfl); (case hg => rfl); (case hr => first | (go_simp; done) | (go_simp; rfl)); (case hp => exact (Reps.c3 (show Kd.M k43 _ _ _ (⟨(⟨#[97]⟩ : ByteArray), (⟨1, (⟨#[48, 49, 50, 51, 52, 53, 54, 55, 56, 57, 97, 98, 99, 100, 101, 102]⟩ : ByteArray)⟩ : S23)⟩ : S43) [.string (⟨#[97]⟩ : ByteArray), .int .i64 1, .string (⟨#[48, 49, 50, 51, 52, 53, 54, 55, 56, 57, 97, 98, 99, 100, 101, 102]⟩ : ByteArray)] from (k43_mkM _ _ _ (⟨(⟨#[97]⟩ : ByteArray), (⟨1, (⟨#[48, 49, 50, 51, 52, 53, 54, 55, 56, 57, 97, 98, 99, 100, 101, 102]⟩ : ByteArray)⟩ : S23)⟩ : S43) )) (Reps.none _ _))); intro v193 w19 ho20 hb hg_ hnew_; clear hg_ hnew_; (first | rw [← Ny192.out] at ho20 | (simp only [Int.reduceToNat] at ho20; rw [← Ny192.out] at ho20)); have HO194 := am_ (Kd.R_lower ho20 (km y38_)); replace BK188 := am_ (ki (g := gb188) (o := .cells #[.int .i64 1, .string (⟨#[48, 49, 50, 51, 52, 53, 54, 55, 56, 57, 97, 98, 99, 100, 101, 102]⟩ : ByteArray)] 23 (0, 0)) y63_ hb); replace BK189 := am_ (ki (g := gb189) (o := .cells #[.string (⟨#[97]⟩ : ByteArray), .int .i64 1, .int .i64 10, .int .u8 3, .int .u64 1] 26 (0, 0)) y62_ hb); replace HB := am_ (ke y38_ hb); clear hb ho20; obtain ⟨Ao21, co21, eo21⟩ := Kd.R_slice HO194.out; subst eo21) | ((with_reducible refine kj (f := 23) rfl ?_); refine kw (some 22) rfl rfl Tryd.func23 (by kernel_rfl) rfl #[.string t190, .slice Ao21 y192.length co21, .int .i64 9, .int .u8 2] rfl y2_ ?_; (with_reducible refine (token_Verify.calls k t190 _ _ y192 9 2 t195 t196 t197 t198 t199 t200 _ ?side1 ?side2 ?side3 A2.out).mono ?_); (case side1 => exact ⟨kU hT.out y38_⟩); (case side2 => repeat (first | exact (Kd.R_reads' HO194.out).2.2 | (with_reducible refine Kd.C_alloc ?_ _) | (with_reducible refine Kd.C_drewN ?_ _) | (with_reducible refine Kd.C_drew ?_))); (case side3 => exact (Kd.R_reads' HO194.out).2.1); rintro e w22 ⟨rfl, hb⟩; refine ⟨_, rfl, ?_⟩; replace HO194 := am_ (Kd.R_below y119_ hb); replace BK188 := am_ (ki (g := gb188) (o := .cells #[.int .i64 1, .string (⟨#[48, 49, 50, 51, 52, 53, 54, 55, 56, 57, 97, 98, 99, 100, 101, 102]⟩ : ByteArray)] 23 (0, 0)) y63_ hb); replace BK189 := am_ (ki (g := gb189) (o := .cells #[.string (⟨#[97]⟩ : ByteArray), .int .i64 1, .int .i64 10, .int .u8 3, .int .u64 1] 26 (0, 0)) y62_ hb); replace HB := am_ (ke y38_ hb); (try clear hb); (try clear hb2); (try clear hk); (try clear hi)) | ((with_reducible refine ko (N := 5) rfl ?_); (try (refine kx (by rfl) ?_; dsimp only)); refine kn ?hg (N := 5) ?hd (cs := #[.string (⟨#[]⟩ : ByteArray), .int .i64 0, .int .i64 0, .int .u8 0, .int .u64 0]) (t := 26) ?hr ?_; (case hd => rfl); (case hg => rfl); (case hr => first | (go_simp; done) | (go_simp; rfl)); intro gb201 hg w23 hbox hb; replace HO194 := am_ (Kd.R_below y119_ hb); have BK201 := am_ (hbox); have GW201 := am_ ((by rw [hg]; exact (km y38_) : w.heap.size ≤ gb201)); have GE201 := am_ ((by rw [hg]; exact (km y38_) : w.heap.size ≤ gb201)); replace HB := am_ (ke y38_ hb); have NB188_201 := am_ ((by rw [hg]; exact Nat.ne_of_lt (ky (g := gb188) (o := .cells #[.int .i64 1, .string (⟨#[48, 49, 50, 51, 52, 53, 54, 55, 56, 57, 97, 98, 99, 100, 101, 102]⟩ : ByteArray)] 23 (0, 0)) y63_) : gb188 ≠ gb201)); have NB201_188 := am_ ((by rw [hg]; exact Nat.ne_of_gt (ky (g := gb188) (o := .cells #[.int .i64 1, .string (⟨#[48, 49, 50, 51, 52, 53, 54, 55, 56, 57, 97, 98, 99, 100, 101, 102]⟩ : ByteArray)] 23 (0, 0)) y63_) : gb201 ≠ gb188)); replace BK188 := am_ (ki (g := gb188) (o := .cells #[.int .i64 1, .string (⟨#[48, 49, 50, 51, 52, 53, 54, 55, 56, 57, 97, 98, 99, 100, 101, 102]⟩ : ByteArray)] 23 (0, 0)) y63_ hb); have NB189_201 := am_ ((by rw [hg]; exact Nat.ne_of_lt (ky (g := gb189) (o := .cells #[.string (⟨#[97]⟩ : ByteArray), .int .i64 1, .int .i64 10, .int .u8 3, .int .u64 1] 26 (0, 0)) y62_) : gb189 ≠ gb201)); have NB201_189 := am_ ((by rw [hg]; exact Nat.ne_of_gt (ky (g := gb189) (o := .cells #[.string (⟨#[97]⟩ : ByteArray), .int .i64 1, .int .i64 10, .int .u8 3, .int .u64 1] 26 (0, 0)) y62_) : gb201 ≠ gb189)); replace BK189 := am_ (ki (g := gb189) (o := .cells #[.string (⟨#[97]⟩ : ByteArray), .int .i64 1, .int .i64 10, .int .u8 3, .int .u64 1] 26 (0, 0)) y62_ hb); clear hb hbox hg; have hnb24 := NB201_188.out; have hnc24 := NB188_201.out; have hnb25 := NB201_189.out; have hnc25 := NB189_201.out; obtain ⟨hcz26_0, hcz26_1, hcz26_2, hcz26_3, hcz26_4, hfz26_0, hfz26_1, hfz26_2, hfz26_3, hfz26_4⟩ := pd5_ BK201.out; obtain ⟨hcz27_0, hcz27_1, hfz27_0, hfz27_1⟩ := pd2_ BK188.out) | ((with_reducible refine ko (N := 29) rfl ?_); (try (refine kx (by rfl) ?_; dsimp only)); refine Kd.R_lit k43 _ 43 ?hg (N := 29) ?hd (xs := ([(⟨(⟨#[97]⟩ : ByteArray), (⟨1, (⟨#[48, 49, 50, 51, 52, 53, 54, 55, 56, 57, 97, 98, 99, 100, 101, 102]⟩ : ByteArray)⟩ : S23)⟩ : S43)] : List (S43))) (inner := [.string (⟨#[97]⟩ : ByteArray), .int .i64 1, .string (⟨#[48, 49, 50, 51, 52, 53, 54, 55, 56, 57, 97, 98, 99, 100, 101, 102]⟩ : ByteArray)]) (ok := fun _ => True) (okp := fun _ => True) ?hr ?hp (fun _ hk => hk) trivial (Below.refl _ _) (Nat.le_refl _) (by simp) ?_; (case hd => rfl); (case hg => rfl); (case hr => first | (go_simp; done) | (go_simp; rfl)); (case hp => exact (Reps.c3 (show Kd.M k43 _ _ _ (⟨(⟨#[97]⟩ : ByteArray), (⟨1, (⟨#[48, 49, 50, 51, 52, 53, 54, 55, 56, 57, 97, 98, 99, 100, 101, 102]⟩ : ByteArray)⟩ : S23)⟩ : S43) [.string (⟨#[97]⟩ : ByteArray), .int .i64 1, .string (⟨#[48, 49, 50, 51, 52, 53, 54, 55, 56, 57, 97, 98, 99, 100, 101, 102]⟩ : ByteArray)] from (k43_mkM _ _ _ (⟨(⟨#[97]⟩ : ByteArray), (⟨1, (⟨#[48, 49, 50, 51, 52, 53, 54, 55, 56, 57, 97, 98, 99, 100, 101, 102]⟩ : ByteArray)⟩ : S23)⟩ : S43) )) (Reps.none _ _))); intro v203 w28 ho29 hb hg_ hnew_; clear hg_ hnew_; (first | rw [← Ny202.out] at ho29 | (simp only [Int.reduceToNat] at ho29; rw [← Ny202.out] at ho29)); have HO204 := am_ (Kd.R_lower (Kd.R_new' ho29 (Kd.R_lt y81_)) (km y42_)); replace HO194 := am_ (Kd.R_elder' y81_ (Kd.R_base ho29) hb); replace BK188 := am_ (ki (g := gb188) (o := .cells #[.int .i64 1, .string (⟨#[48, 49, 50, 51, 52, 53, 54, 55, 56, 57, 97, 98, 99, 100, 101, 102]⟩ : ByteArray)] 23 (0, 0)) (by (with_reducible repeat (first | refine kf ?_ _ | refine kg ?_ | refine kd ?_ _)); refine kB ?_ NB188_201.out _; (with_reducible repeat (first | refine kf ?_ _ | refine kg ?_ | refine kd ?_ _)); refine kB ?_ NB188_201.out _; (with_reducible repeat (first | refine kf ?_ _ | refine kg ?_ | refine kd ?_ _)); refine kB ?_ NB188_201.out _; (with_reducible repeat (first | refine kf ?_ _ | refine kg ?_ | refine kd ?_ _)); refine kB ?_ NB188_201.out _; (with_reducible repeat (first | refine kf ?_ _ | refine kg ?_ | refine kd ?_ _)); refine kB ?_ NB188_201.out _; (with_reducible repeat (first | refine kf ?_ _ | refine kg ?_ | refine kd ?_ _)); exact BK188.out) hb); replace BK189 := am_ (ki (g := gb189) (o := .cells #[.string (⟨#[97]⟩ : ByteArray), .int .i64 1, .int .i64 10, .int .u8 3, .int .u64 1] 26 (0, 0)) (by (with_reducible repeat (first | refine kf ?_ _ | refine kg ?_ | refine kd ?_ _)); refine kB ?_ NB189_201.out _; (with_reducible repeat (first | refine kf ?_ _ | refine kg ?_ | refine kd ?_ _)); refine kB ?_ NB189_201.out _; (with_reducible repeat (first | refine kf ?_ _ | refine kg ?_ | refine kd ?_ _)); refine kB ?_ NB189_201.out _; (with_reducible repeat (first | refine kf ?_ _ | refine kg ?_ | refine kd ?_ _)); refine kB ?_ NB189_201.out _; (with_reducible repeat (first | refine kf ?_ _ | refine kg ?_ | refine kd ?_ _)); refine kB ?_ NB189_201.out _; (with_reducible repeat (first | refine kf ?_ _ | refine kg ?_ | refine kd ?_ _)); exact BK189.out) hb); replace BK201 := am_ (ki (g := gb201) (o := .cells #[.string t195, .int .i64 t196, .int .i64 t197, .int .u8 t198, .int .u64 t199] 26 (0, 0)) (by (with_reducible repeat (first | refine kf ?_ _ | refine kg ?_ | refine kd ?_ _)); refine kp (cs := #[.string t195, .int .i64 t196, .int .i64 t197, .int .u8 t198, .int .u64 0]) ?_ 4 _ rfl; (with_reducible repeat (first | refine kf ?_ _ | refine kg ?_ | refine kd ?_ _)); refine kp (cs := #[.string t195, .int .i64 t196, .int .i64 t197, .int .u8 0, .int .u64 0]) ?_ 3 _ rfl; (with_reducible repeat (first | refine kf ?_ _ | refine kg ?_ | refine kd ?_ _)); refine kp (cs := #[.string t195, .int .i64 t196, .int .i64 0, .int .u8 0, .int .u64 0]) ?_ 2 _ rfl; (with_reducible repeat (first | refine kf ?_ _ | refine kg ?_ | refine kd ?_ _)); refine kp (cs := #[.string t195, .int .i64 0, .int .i64 0, .int .u8 0, .int .u64 0]) ?_ 1 _ rfl; (with_reducible repeat (first | refine kf ?_ _ | refine kg ?_ | refine kd ?_ _)); refine kp (cs := #[.string (⟨#[]⟩ : ByteArray), .int .i64 0, .int .i64 0, .int .u8 0, .int .u64 0]) ?_ 0 _ rfl; (with_reducible repeat (first | refine kf ?_ _ | refine kg ?_ | refine kd ?_ _)); exact BK201.out) hb); replace HB := am_ (ke y42_ hb); clear hb ho29; obtain ⟨Ao30, co30, eo30⟩ := Kd.R_slice HO204.out; subst eo30) | ((with_reducible refine kj (f := 23) rfl ?_); refine kw (some 30) rfl rfl Tryd.func23 (by kernel_rfl) rfl #[.string t190, .slice Ao30 y202.length co30, .int .i64 10, .int .u8 2] rfl y2_ ?_; (with_reducible refine (token_Verify.calls k t190 _ _ y202 10 2 t205 t206 t207 t208 t209 t210 _ ?side1 ?side2 ?side3 A3.out).mono ?_); (case side1 => exact ⟨kU hT.out y42_⟩); (case side2 => repeat (first | exact (Kd.R_reads' HO204.out).2.2 | (with_reducible refine Kd.C_alloc ?_ _) | (with_reducible refine Kd.C_drewN ?_ _) | (with_reducible refine Kd.C_drew ?_))); (case side3 => exact (Kd.R_reads' HO204.out).2.1); rintro e w31 ⟨rfl, hb⟩; refine ⟨_, rfl, ?_⟩; replace HO194 := am_ (Kd.R_below y119_ hb); replace HO204 := am_ (Kd.R_below (by (with_reducible repeat (first | apply Kd.R_alloc | apply Kd.R_drewN | apply Kd.R_drew)); exact HO204.out) hb); replace BK188 := am_ (ki (g := gb188) (o := .cells #[.int .i64 1, .string (⟨#[48, 49, 50, 51, 52, 53, 54, 55, 56, 57, 97, 98, 99, 100, 101, 102]⟩ : ByteArray)] 23 (0, 0)) y63_ hb); replace BK189 := am_ (ki (g := gb189) (o := .cells #[.string (⟨#[97]⟩ : ByteArray), .int .i64 1, .int .i64 10, .int .u8 3, .int .u64 1] 26 (0, 0)) y62_ hb); replace BK201 := am_ (ki (g := gb201) (o := .cells #[.string t195, .int .i64 t196, .int .i64 t197, .int .u8 t198, .int .u64 t199] 26 (0, 0)) y98_ hb); replace HB := am_ (ke y42_ hb); (try clear hb); (try clear hb2); (try clear hk); (try clear hi)) | ((with_reducible refine ko (N := 7) rfl ?_); (try (refine kx (by rfl) ?_; dsimp only)); refine kn ?hg (N := 7) ?hd (cs := #[.string (⟨#[]⟩ : ByteArray), .int .i64 0, .int .i64 0, .int .u8 0, .int .u64 0]) (t := 26) ?hr ?_; (case hd => rfl); (case hg => rfl); (case hr => first | (go_simp; done) | (go_simp; rfl)); intro gb211 hg w32 hbox hb; replace HO194 := am_ (Kd.R_below y119_ hb); replace HO204 := am_ (Kd.R_below (by (with_reducible repeat (first | apply Kd.R_alloc | apply Kd.R_drewN | apply Kd.R_drew)); exact HO204.out) hb); have BK211 := am_ (hbox); have GW211 := am_ ((by rw [hg]; exact (km y42_) : w.heap.size ≤ gb211)); have GE211 := am_ ((by rw [hg]; exact (km y42_) : w.heap.size ≤ gb211)); replace HB := am_ (ke y42_ hb); have NB188_211 := am_ ((by rw [hg]; exact Nat.ne_of_lt (ky (g := gb188) (o := .cells #[.int .i64 1, .string (⟨#[48, 49, 50, 51, 52, 53, 54, 55, 56, 57, 97, 98, 99, 100, 101, 102]⟩ : ByteArray)] 23 (0, 0)) y63_) : gb188 ≠ gb211)); have NB211_188 := am_ ((by rw [hg]; exact Nat.ne_of_gt (ky (g := gb188) (o := .cells #[.int .i64 1, .string (⟨#[48, 49, 50, 51, 52, 53, 54, 55, 56, 57, 97, 98, 99, 100, 101, 102]⟩ : ByteArray)] 23 (0, 0)) y63_) : gb211 ≠ gb188)); replace BK188 := am_ (ki (g := gb188) (o := .cells #[.int .i64 1, .string (⟨#[48, 49, 50, 51, 52, 53, 54, 55, 56, 57, 97, 98, 99, 100, 101, 102]⟩ : ByteArray)] 23 (0, 0)) y63_ hb); have NB189_211 := am_ ((by rw [hg]; exact Nat.ne_of_lt (ky (g := gb189) (o := .cells #[.string (⟨#[97]⟩ : ByteArray), .int .i64 1, .int .i64 10, .int .u8 3, .int .u64 1] 26 (0, 0)) y62_) : gb189 ≠ gb211)); have NB211_189 := am_ ((by rw [hg]; exact Nat.ne_of_gt (ky (g := gb189) (o := .cells #[.string (⟨#[97]⟩ : ByteArray), .int .i64 1, .int .i64 10, .int .u8 3, .int .u64 1] 26 (0, 0)) y62_) : gb211 ≠ gb189)); replace BK189 := am_ (ki (g := gb189) (o := .cells #[.string (⟨#[97]⟩ : ByteArray), .int .i64 1, .int .i64 10, .int .u8 3, .int .u64 1] 26 (0, 0)) y62_ hb); have NB201_211 := am_ ((by rw [hg]; exact Nat.ne_of_lt (ky (g := gb201) (o := .cells #[.string t195, .int .i64 t196, .int .i64 t197, .int .u8 t198, .int .u64 t199] 26 (0, 0)) y98_) : gb201 ≠ gb211)); have NB211_201 := am_ ((by rw [hg]; exact Nat.ne_of_gt (ky (g := gb201) (o := .cells #[.string t195, .int .i64 t196, .int .i64 t197, .int .u8 t198, .int .u64 t199] 26 (0, 0)) y98_) : gb211 ≠ gb201)); replace BK201 := am_ (ki (g := gb201) (o := .cells #[.string t195, .int .i64 t196, .int .i64 t197, .int .u8 t198, .int .u64 t199] 26 (0, 0)) y98_ hb); clear hb hbox hg; have hnb33 := NB211_188.out; have hnc33 := NB188_211.out; have hnb34 := NB211_189.out; have hnc34 := NB189_211.out; have hnb35 := NB211_201.out; have hnc35 := NB201_211.out; obtain ⟨hcz36_0, hcz36_1, hcz36_2, hcz36_3, hcz36_4, hfz36_0, hfz36_1, hfz36_2, hfz36_3, hfz36_4⟩ := pd5_ BK211.out; obtain ⟨hcz37_0, hcz37_1, hcz37_2, hcz37_3, hcz37_4, hfz37_0, hfz37_1, hfz37_2, hfz37_3, hfz37_4⟩ := pd5_ BK201.out; obtain ⟨hcz38_0, hcz38_1, hcz38_2, hcz38_3, hcz38_4, hfz38_0, hfz38_1, hfz38_2, hfz38_3, hfz38_4⟩ := pd5_ BK189.out))
 by_cases c4 : t191 = 0
 ·rw [if_pos c4] at H; have c4b0 : (t191 == 0) = true := beq_iff_eq.mpr c4; have c4b1 : (t191 != 0) = false := bne_eq_false_iff_eq.mpr c4; clear c4
  by_cases c5 : (t190.size : Int) = 56
  ·rw [if_pos c5] at H; have c5b0 : ((t190.size : Int) == 56) = true := beq_iff_eq.mpr c5; have c5b1 : ((t190.size : Int) != 56) = false := bne_eq_false_iff_eq.mpr c5; clear c5
   by_cases c6 : 0 ≤ 13
   ·rw [if_pos c6] at H; have c6b0 := eq_true c6; have c6b1 : decide (0 ≤ 13) = true := decide_eq_true c6; clear c6
    by_cases c7 : 13 ≤ (t190.size : Int)
    ·rw [if_pos c7] at H; have c7b0 := eq_true c7; have c7b1 : decide (13 ≤ (t190.size : Int)) = true := decide_eq_true c7; clear c7
     by_cases c8 : (t190.extract 0 13).toList = ([109, 116, 49, 46, 65, 87, 69, 66, 70, 65, 77, 66, 46] : List UInt8)
     ·rw [if_pos c8] at H; have c8b0 : ((t190.extract 0 13).toList == ([109, 116, 49, 46, 65, 87, 69, 66, 70, 65, 77, 66, 46] : List UInt8)) = true := beq_iff_eq.mpr c8; have c8b1 : ((t190.extract 0 13).toList != ([109, 116, 49, 46, 65, 87, 69, 66, 70, 65, 77, 66, 46] : List UInt8)) = false := bne_eq_false_iff_eq.mpr c8; clear c8
      by_cases c9 : t200 = 0
      ·rw [if_pos c9] at H; have c9b0 : (t200 == 0) = true := beq_iff_eq.mpr c9; have c9b1 : (t200 != 0) = false := bne_eq_false_iff_eq.mpr c9; clear c9
       by_cases c10 : (t195.toList == ([97] : List UInt8) && (t196 == 1 && (t197 == 10 && (t198 == 3 && (t199 == 1))))) = true
       ·rw [if_pos c10] at H; have c10b0 : (t195.toList == ([97] : List UInt8) && (t196 == 1 && (t197 == 10 && (t198 == 3 && (t199 == 1))))) = true := c10; (try (have c10b1 : decide (t195.toList = ([97] : List UInt8) && (t196 == 1 && (t197 == 10 && (t198 == 3 && (t199 == 1))))) = true := by simpa using c10)); (try (have c10b2 : (t195.toList == ([97] : List UInt8) && (t196 == 1 && (t197 == 10 && (t198 == 3 && (t199 == 1))))) = true := by simpa using c10)); clear c10; obtain rfl := Option.some.inj H
        go_wp2_with (fail)
        go_ret
        exact ⟨y5_, y44_⟩
       ·rw [if_neg c10] at H
        have c10b0 : (t195.toList == ([97] : List UInt8) && (t196 == 1 && (t197 == 10 && (t198 == 3 && (t199 == 1))))) = false := by simpa using c10
        (try (have c10b1 : decide (t195.toList = ([97] : List UInt8) && (t196 == 1 && (t197 == 10 && (t198 == 3 && (t199 == 1))))) = false := by simpa using c10)); (try (have c10b2 : (t195.toList == ([97] : List UInt8) && (t196 == 1 && (t197 == 10 && (t198 == 3 && (t199 == 1))))) = false := by simpa using c10)); (try (have c10b3 : ¬ (t195.toList = ([97] : List UInt8) && (t196 == 1 && (t197 == 10 && (t198 == 3 && (t199 == 1))))) := by simpa using c10)); clear c10; obtain rfl := Option.some.inj H
        go_wp2_with (fail)
        go_ret
        exact ⟨y5_, y44_⟩
      ·rw [if_neg c9] at H; have c9b0 : (t200 == 0) = false := beq_eq_false_iff_ne.mpr c9; have c9b1 : (t200 != 0) = true := bne_iff_ne.mpr c9; obtain rfl := Option.some.inj H
       go_wp2_with (fail)
       go_ret
       exact ⟨y5_, y44_⟩
     ·rw [if_neg c8] at H; have c8b0 : ((t190.extract 0 13).toList == ([109, 116, 49, 46, 65, 87, 69, 66, 70, 65, 77, 66, 46] : List UInt8)) = false := beq_eq_false_iff_ne.mpr c8; have c8b1 : ((t190.extract 0 13).toList != ([109, 116, 49, 46, 65, 87, 69, 66, 70, 65, 77, 66, 46] : List UInt8)) = true := bne_iff_ne.mpr c8; obtain rfl := Option.some.inj H
      go_wp2_with (fail)
      go_ret
      exact ⟨y5_, y44_⟩
    ·rw [if_neg c7] at H
     exact absurd H (by simp)
   ·rw [if_neg c6] at H
    exact absurd H (by simp)
  ·rw [if_neg c5] at H; have c5b0 : ((t190.size : Int) == 56) = false := beq_eq_false_iff_ne.mpr c5; have c5b1 : ((t190.size : Int) != 56) = true := bne_iff_ne.mpr c5; obtain rfl := Option.some.inj H
   go_wp2_with (fail)
   go_ret
   exact ⟨y5_, y44_⟩
 ·rw [if_neg c4] at H; have c4b0 : (t191 == 0) = false := beq_eq_false_iff_ne.mpr c4; have c4b1 : (t191 != 0) = true := bne_iff_ne.mpr c4; obtain rfl := Option.some.inj H
  go_wp2_with (fail)
  go_ret
  exact ⟨y5_, y44_⟩
def mr05_Letter.f (a0 : Int) : Option (Bool) := if a0 ≥ 97 then (if a0 ≤ 122 then (some true) else (if a0 ≥ 65 then (if a0 ≤ 90 then (some true) else (if a0 ≥ 48 then (if a0 ≤ 57 then (some true) else (some (a0 == 95))) else (some (a0 == 95)))) else (if a0 ≥ 48 then (if a0 ≤ 57 then (some true) else (some (a0 == 95))) else (some (a0 == 95))))) else (if a0 ≥ 65 then (if a0 ≤ 90 then (some true) else (if a0 ≥ 48 then (if a0 ≤ 57 then (some true) else (some (a0 == 95))) else (some (a0 == 95)))) else (if a0 ≥ 48 then (if a0 ≤ 57 then (some true) else (some (a0 == 95))) else (some (a0 == 95))))
set_option maxHeartbeats 8000000 in
set_option maxRecDepth 100000 in
theorem mr05_Letter.calls (a0 : Int) (r : Bool) (w : World) (h : mr05_Letter.f a0 = some r) :
  Calls Tryd.prog 55 #[.int .u8 a0] w fun e w' => e = .returned (.bool r) ∧ Drawn0 w w' := by
 have H : (if a0 ≥ 97 then (if a0 ≤ 122 then (some true) else (if a0 ≥ 65 then (if a0 ≤ 90 then (some true) else (if a0 ≥ 48 then (if a0 ≤ 57 then (some true) else (some (a0 == 95))) else (some (a0 == 95)))) else (if a0 ≥ 48 then (if a0 ≤ 57 then (some true) else (some (a0 == 95))) else (some (a0 == 95))))) else (if a0 ≥ 65 then (if a0 ≤ 90 then (some true) else (if a0 ≥ 48 then (if a0 ≤ 57 then (some true) else (some (a0 == 95))) else (some (a0 == 95)))) else (if a0 ≥ 48 then (if a0 ≤ 57 then (some true) else (some (a0 == 95))) else (some (a0 == 95))))) = some r := h; clear h
 by_cases c2 : a0 ≥ 97
 ·rw [if_pos c2] at H; have c2b0 : decide (97 ≤ a0) = true := decide_eq_true c2; clear c2
  by_cases c3 : a0 ≤ 122
  ·rw [if_pos c3] at H; have c3b0 : decide (a0 ≤ 122) = true := decide_eq_true c3; clear c3; obtain rfl := Option.some.inj H; go_enter Tryd.func55, Tryd.ntmps55
   go_wp2
   go_ret
   exact ⟨y24_, y6_⟩
  ·rw [if_neg c3] at H; have c3b0 : decide (a0 ≤ 122) = false := decide_eq_false c3; clear c3
   by_cases c4 : a0 ≥ 65
   ·rw [if_pos c4] at H; have c4b0 : decide (65 ≤ a0) = true := decide_eq_true c4; clear c4
    by_cases c5 : a0 ≤ 90
    ·rw [if_pos c5] at H; have c5b0 : decide (a0 ≤ 90) = true := decide_eq_true c5; clear c5; obtain rfl := Option.some.inj H; go_enter Tryd.func55, Tryd.ntmps55
     go_wp2
     go_ret
     exact ⟨y24_, y6_⟩
    ·rw [if_neg c5] at H; have c5b0 : decide (a0 ≤ 90) = false := decide_eq_false c5; clear c5
     by_cases c6 : a0 ≥ 48
     ·rw [if_pos c6] at H; have c6b0 : decide (48 ≤ a0) = true := decide_eq_true c6; clear c6
      by_cases c7 : a0 ≤ 57
      ·rw [if_pos c7] at H; have c7b0 : decide (a0 ≤ 57) = true := decide_eq_true c7; clear c7; obtain rfl := Option.some.inj H; go_enter Tryd.func55, Tryd.ntmps55
       go_wp2
       go_ret
       exact ⟨y24_, y6_⟩
      ·rw [if_neg c7] at H; have c7b0 : decide (a0 ≤ 57) = false := decide_eq_false c7; clear c7; obtain rfl := Option.some.inj H; go_enter Tryd.func55, Tryd.ntmps55
       go_wp2
       go_ret
       exact ⟨y24_, y6_⟩
     ·rw [if_neg c6] at H; have c6b0 : decide (48 ≤ a0) = false := decide_eq_false c6; clear c6; obtain rfl := Option.some.inj H; go_enter Tryd.func55, Tryd.ntmps55
      go_wp2
      go_ret
      exact ⟨y24_, y6_⟩
   ·rw [if_neg c4] at H; have c4b0 : decide (65 ≤ a0) = false := decide_eq_false c4; clear c4
    by_cases c8 : a0 ≥ 48
    ·rw [if_pos c8] at H; have c8b0 : decide (48 ≤ a0) = true := decide_eq_true c8; clear c8
     by_cases c9 : a0 ≤ 57
     ·rw [if_pos c9] at H; have c9b0 : decide (a0 ≤ 57) = true := decide_eq_true c9; clear c9; obtain rfl := Option.some.inj H; go_enter Tryd.func55, Tryd.ntmps55
      go_wp2
      go_ret
      exact ⟨y24_, y6_⟩
     ·rw [if_neg c9] at H; have c9b0 : decide (a0 ≤ 57) = false := decide_eq_false c9; clear c9; obtain rfl := Option.some.inj H; go_enter Tryd.func55, Tryd.ntmps55
      go_wp2
      go_ret
      exact ⟨y24_, y6_⟩
    ·rw [if_neg c8] at H; have c8b0 : decide (48 ≤ a0) = false := decide_eq_false c8; clear c8; obtain rfl := Option.some.inj H; go_enter Tryd.func55, Tryd.ntmps55
     go_wp2
     go_ret
     exact ⟨y24_, y6_⟩
 ·rw [if_neg c2] at H; have c2b0 : decide (97 ≤ a0) = false := decide_eq_false c2; clear c2
  by_cases c10 : a0 ≥ 65
  ·rw [if_pos c10] at H; have c10b0 : decide (65 ≤ a0) = true := decide_eq_true c10; clear c10
   by_cases c11 : a0 ≤ 90
   ·rw [if_pos c11] at H; have c11b0 : decide (a0 ≤ 90) = true := decide_eq_true c11; clear c11; obtain rfl := Option.some.inj H; go_enter Tryd.func55, Tryd.ntmps55
    go_wp2
    go_ret
    exact ⟨y24_, y6_⟩
   ·rw [if_neg c11] at H; have c11b0 : decide (a0 ≤ 90) = false := decide_eq_false c11; clear c11
    by_cases c12 : a0 ≥ 48
    ·rw [if_pos c12] at H; have c12b0 : decide (48 ≤ a0) = true := decide_eq_true c12; clear c12
     by_cases c13 : a0 ≤ 57
     ·rw [if_pos c13] at H; have c13b0 : decide (a0 ≤ 57) = true := decide_eq_true c13; clear c13; obtain rfl := Option.some.inj H; go_enter Tryd.func55, Tryd.ntmps55
      go_wp2
      go_ret
      exact ⟨y24_, y6_⟩
     ·rw [if_neg c13] at H; have c13b0 : decide (a0 ≤ 57) = false := decide_eq_false c13; clear c13; obtain rfl := Option.some.inj H; go_enter Tryd.func55, Tryd.ntmps55
      go_wp2
      go_ret
      exact ⟨y24_, y6_⟩
    ·rw [if_neg c12] at H; have c12b0 : decide (48 ≤ a0) = false := decide_eq_false c12; clear c12; obtain rfl := Option.some.inj H; go_enter Tryd.func55, Tryd.ntmps55
     go_wp2
     go_ret
     exact ⟨y24_, y6_⟩
  ·rw [if_neg c10] at H; have c10b0 : decide (65 ≤ a0) = false := decide_eq_false c10; clear c10
   by_cases c14 : a0 ≥ 48
   ·rw [if_pos c14] at H; have c14b0 : decide (48 ≤ a0) = true := decide_eq_true c14; clear c14
    by_cases c15 : a0 ≤ 57
    ·rw [if_pos c15] at H; have c15b0 : decide (a0 ≤ 57) = true := decide_eq_true c15; clear c15; obtain rfl := Option.some.inj H; go_enter Tryd.func55, Tryd.ntmps55
     go_wp2
     go_ret
     exact ⟨y24_, y6_⟩
    ·rw [if_neg c15] at H; have c15b0 : decide (a0 ≤ 57) = false := decide_eq_false c15; clear c15; obtain rfl := Option.some.inj H; go_enter Tryd.func55, Tryd.ntmps55
     go_wp2
     go_ret
     exact ⟨y24_, y6_⟩
   ·rw [if_neg c14] at H; have c14b0 : decide (48 ≤ a0) = false := decide_eq_false c14; clear c14; obtain rfl := Option.some.inj H; go_enter Tryd.func55, Tryd.ntmps55
    go_wp2
    go_ret
    exact ⟨y24_, y6_⟩
def mr05_Named.l0 : Nat → ByteArray → Int → Int → Option (Bool)
 | 0, _, _, _ => none
 | k + 1, x0, x5, x6 => if x6 < x5 then (if 0 ≤ x6 then (if x6 < (x0.size : Int) then ((mr05_Letter.f (bt x0 x6)).bind fun t212 => (if t212 = true then (mr05_Named.l0 k x0 x5 (wrap64 (x6 + 1))) else (some false))) else (none)) else (none)) else (if (x0.size : Int) ≥ 1 then (if (x0.size : Int) ≤ 64 then (if 0 < (x0.size : Int) then (if (bt x0 0) < 48 then (some true) else (some (decide ((bt x0 0) > 57)))) else (none)) else (some false)) else (some false))
def mr05_Named.f (k : Nat) (a0 : ByteArray) : Option (Bool) := mr05_Named.l0 k a0 (a0.size : Int) 0
set_option maxHeartbeats 8000000 in
set_option maxRecDepth 100000 in
theorem mr05_Named.calls (k : Nat) (a0 : ByteArray) (r : Bool) (w : World) (h : mr05_Named.f k a0 = some r) :
  Calls Tryd.prog 32 #[.string a0] w fun e w' => e = .returned (.bool r) ∧ Drawn0 w w' := by
 have H : (mr05_Named.l0 k a0 (a0.size : Int) 0) = some r := h; clear h; have H' := Aside0.mk H; clear H; go_enter Tryd.func32, Tryd.ntmps32
 go_wp2
 go_loopg [6] k (fun kq v6 w' => ∃ (x6_1 : Int), v6 = .int .i64 x6_1 ∧ Aside0 (mr05_Named.l0 kq a0 (a0.size : Int) x6_1 = some r) ∧ Aside0 (kq ≤ k) ∧ Drawn0 w w')
 case atStart => exact ⟨(0), y3_, H', ⟨Nat.le_refl _⟩, y6_⟩
 case round =>
  clear H'; obtain ⟨x6_1, rfl, HA, HK1, ⟨m1, rfl⟩⟩ := hrel
  cases gk with
  | zero => exact absurd HA.out (by simp [mr05_Named.l0])
  | succ k1 =>
   have H := HA.out; clear HA; simp only [mr05_Named.l0] at H
   by_cases c2 : x6_1 < (a0.size : Int)
   ·rw [if_pos c2] at H; have c2b0 : decide (x6_1 < (a0.size : Int)) = true := decide_eq_true c2; clear c2
    by_cases c3 : 0 ≤ x6_1
    ·rw [if_pos c3] at H; have c3b0 : decide (0 ≤ x6_1) = true := decide_eq_true c3; clear c3
     by_cases c4 : x6_1 < (a0.size : Int)
     ·rw [if_pos c4] at H; have c4b0 : decide (x6_1 < (a0.size : Int)) = true := decide_eq_true c4; clear c4; replace H := Option.bind_eq_some_iff.mp H; obtain ⟨t212, A60, H⟩ := H; have A6 := Aside0.mk A60; clear A60
      by_cases c7 : t212 = true
      ·subst c7; rw [if_pos rfl] at H; have H' := Aside0.mk H; clear H; have p5 : 0 ≤ (x6_1 : Int) := of_decide_eq_true y4_; have q5 : x6_1 < (a0.size : Int) := of_decide_eq_true y4_; have hx5 := bt_at a0 x6_1; replace p5 := eq_true p5; replace q5 := eq_true q5
       go_wp2_with (first | ((with_reducible refine kj (f := 55) rfl ?_); refine kw (some 12) rfl rfl Tryd.func55 (by kernel_rfl) rfl #[.int .u8 (bt a0 x6_1)] rfl y2_ ?_; (with_reducible refine (mr05_Letter.calls (bt a0 x6_1) true _ A6.out).mono ?_); rintro e w' ⟨rfl, ⟨nd, rfl⟩⟩; refine ⟨_, rfl, ?_⟩))
       go_roundg k1
       case measure => have := HK1.out; omega
       case rel => exact ⟨(wrap64 (x6_1 + 1)), y3_, H', ⟨y124_⟩, y6_⟩
      ·replace c7 := Bool.eq_false_iff.mpr c7; subst c7; rw [if_neg (show ¬ (false = true) by decide)] at H; obtain rfl := Option.some.inj H; have p5 : 0 ≤ (x6_1 : Int) := of_decide_eq_true y4_; have q5 : x6_1 < (a0.size : Int) := of_decide_eq_true y4_; have hx5 := bt_at a0 x6_1; replace p5 := eq_true p5; replace q5 := eq_true q5
       go_wp2_with (first | ((with_reducible refine kj (f := 55) rfl ?_); refine kw (some 12) rfl rfl Tryd.func55 (by kernel_rfl) rfl #[.int .u8 (bt a0 x6_1)] rfl y2_ ?_; (with_reducible refine (mr05_Letter.calls (bt a0 x6_1) false _ A6.out).mono ?_); rintro e w' ⟨rfl, ⟨nd, rfl⟩⟩; refine ⟨_, rfl, ?_⟩))
       go_ret
       exact ⟨y24_, y6_⟩
     ·rw [if_neg c4] at H
      exact absurd H (by simp)
    ·rw [if_neg c3] at H
     exact absurd H (by simp)
   ·rw [if_neg c2] at H; have c2b0 : decide (x6_1 < (a0.size : Int)) = false := decide_eq_false c2; clear c2
    by_cases c8 : (a0.size : Int) ≥ 1
    ·rw [if_pos c8] at H; have c8b0 : decide (1 ≤ (a0.size : Int)) = true := decide_eq_true c8; have c8b1 : decide (1 ≤ a0.size) = true := decide_eq_true (by omega); clear c8
     by_cases c9 : (a0.size : Int) ≤ 64
     ·rw [if_pos c9] at H; have c9b0 : decide ((a0.size : Int) ≤ 64) = true := decide_eq_true c9; have c9b1 : decide (a0.size ≤ 64) = true := decide_eq_true (by omega); clear c9
      by_cases c10 : 0 < (a0.size : Int)
      ·rw [if_pos c10] at H; have c10b0 : decide (0 < (a0.size : Int)) = true := decide_eq_true c10; have c10b1 : decide (0 < a0.size) = true := decide_eq_true (by omega); clear c10
       by_cases c12 : (bt a0 0) < 48
       ·rw [if_pos c12] at H; have c12b0 : decide ((bt a0 0) < 48) = true := decide_eq_true c12; clear c12; obtain rfl := Option.some.inj H; have p11 : 0 ≤ (0 : Int) := (by omega); have q11 : 0 < a0.size := (by have : (0 : Int) < (a0.size : Int) := of_decide_eq_true y4_; omega); have hx11 : ∀ h : 0 < a0.size, ((a0[0]'h).toNat : Int) = bt a0 0 := bt_at a0 0; clear p11; have qi11 : (0 < (a0.size : Int)) = True := eq_true (of_decide_eq_true y4_); replace q11 := eq_true q11
        go_wp2
        go_ret
        exact ⟨y24_, y6_⟩
       ·rw [if_neg c12] at H; have c12b0 : decide ((bt a0 0) < 48) = false := decide_eq_false c12; clear c12; obtain rfl := Option.some.inj H; have p11 : 0 ≤ (0 : Int) := (by omega); have q11 : 0 < a0.size := (by have : (0 : Int) < (a0.size : Int) := of_decide_eq_true y4_; omega); have hx11 : ∀ h : 0 < a0.size, ((a0[0]'h).toNat : Int) = bt a0 0 := bt_at a0 0; clear p11; have qi11 : (0 < (a0.size : Int)) = True := eq_true (of_decide_eq_true y4_); replace q11 := eq_true q11; have p13 : 0 ≤ (0 : Int) := (by omega); have q13 : 0 < a0.size := (by have : (0 : Int) < (a0.size : Int) := of_decide_eq_true y4_; omega); have hx13 : ∀ h : 0 < a0.size, ((a0[0]'h).toNat : Int) = bt a0 0 := bt_at a0 0; clear p13; have qi13 : (0 < (a0.size : Int)) = True := eq_true (of_decide_eq_true y4_); replace q13 := eq_true q13
        go_wp2
        go_ret
        exact ⟨y24_, y6_⟩
      ·rw [if_neg c10] at H
       exact absurd H (by simp)
     ·rw [if_neg c9] at H; have c9b0 : decide ((a0.size : Int) ≤ 64) = false := decide_eq_false c9; have c9b1 : decide (a0.size ≤ 64) = false := decide_eq_false (by omega); clear c9; obtain rfl := Option.some.inj H
      go_wp2
      go_ret
      exact ⟨y24_, y6_⟩
    ·rw [if_neg c8] at H; have c8b0 : decide (1 ≤ (a0.size : Int)) = false := decide_eq_false c8; have c8b1 : decide (1 ≤ a0.size) = false := decide_eq_false (by omega); clear c8; obtain rfl := Option.some.inj H
     go_wp2
     go_ret
     exact ⟨y24_, y6_⟩
def mr17_Tenant.f (k : Nat) (a0 : ByteArray) : Option (Bool) := (mr05_Named.f k a0).bind fun t213 => (if t213 = true then (some (decide ((a0.size : Int) ≤ 32))) else (some false))
set_option maxHeartbeats 8000000 in
set_option maxRecDepth 100000 in
theorem mr17_Tenant.calls (k : Nat) (a0 : ByteArray) (r : Bool) (w : World) (h : mr17_Tenant.f k a0 = some r) :
  Calls Tryd.prog 15 #[.string a0] w fun e w' => e = .returned (.bool r) ∧ Drawn0 w w' := by
 have H : ((mr05_Named.f k a0).bind fun t213 => (if t213 = true then (some (decide ((a0.size : Int) ≤ 32))) else (some false))) = some r := h; clear h; replace H := Option.bind_eq_some_iff.mp H; obtain ⟨t213, A20, H⟩ := H; have A2 := Aside0.mk A20; clear A20
 by_cases c3 : t213 = true
 ·subst c3; rw [if_pos rfl] at H; obtain rfl := Option.some.inj H; go_enter Tryd.func15, Tryd.ntmps15
  go_wp2_with (first | ((with_reducible refine kj (f := 32) rfl ?_); refine kw (some 4) rfl rfl Tryd.func32 (by kernel_rfl) rfl #[.string a0] rfl y2_ ?_; (with_reducible refine (mr05_Named.calls k a0 true _ A2.out).mono ?_); rintro e w' ⟨rfl, ⟨nd, rfl⟩⟩; refine ⟨_, rfl, ?_⟩))
  go_ret
  exact ⟨y24_, y6_⟩
 ·replace c3 := Bool.eq_false_iff.mpr c3; subst c3; rw [if_neg (show ¬ (false = true) by decide)] at H; obtain rfl := Option.some.inj H; go_enter Tryd.func15, Tryd.ntmps15
  go_wp2_with (first | ((with_reducible refine kj (f := 32) rfl ?_); refine kw (some 4) rfl rfl Tryd.func32 (by kernel_rfl) rfl #[.string a0] rfl y2_ ?_; (with_reducible refine (mr05_Named.calls k a0 false _ A2.out).mono ?_); rintro e w' ⟨rfl, ⟨nd, rfl⟩⟩; refine ⟨_, rfl, ?_⟩))
  go_ret
  exact ⟨y24_, y6_⟩
def mr17_Check.j0 : Nat → Bool → ByteArray → Int → Int → Int → Int → Option (Int)
 | 0, _, _, _, _, _, _ => none
 | k + 1, x8, x215000, x215001, x215002, x215003, x215004 => if x8 = true then (some 181) else (if x215003 < 1 then (some 1) else (if x215003 > 7 then (some 1) else (some 0)))
def mr17_Check.f (k : Nat) (a0_0 : ByteArray) (a0_1 : Int) (a0_2 : Int) (a0_3 : Int) (a0_4 : Int) : Option (Int) := (mr17_Tenant.f k a0_0).bind fun t215 => (if t215 = true then (if a0_1 < 1 then (mr17_Check.j0 k true a0_0 a0_1 a0_2 a0_3 a0_4) else (mr17_Check.j0 k (decide (a0_1 > 99)) a0_0 a0_1 a0_2 a0_3 a0_4)) else (some 180))
set_option maxHeartbeats 8000000 in
set_option maxRecDepth 100000 in
theorem mr17_Check.calls (k : Nat) (a0_0 : ByteArray) (a0_1 : Int) (a0_2 : Int) (a0_3 : Int) (a0_4 : Int) (r : Int) (w : World) (h : mr17_Check.f k a0_0 a0_1 a0_2 a0_3 a0_4 = some r) :
  Calls Tryd.prog 13 #[.agg #[.string a0_0, .int .i64 a0_1, .int .i64 a0_2, .int .u8 a0_3, .int .u64 a0_4]] w fun e w' => e = .returned (.int .i64 r) ∧ Below w.heap.size w w' := by
 have hu26 := Tryd.underlying26; have HB := am_ (Below.refl w.heap.size w); have H : ((mr17_Tenant.f k a0_0).bind fun t215 => (if t215 = true then (if a0_1 < 1 then (mr17_Check.j0 k true a0_0 a0_1 a0_2 a0_3 a0_4) else (mr17_Check.j0 k (decide (a0_1 > 99)) a0_0 a0_1 a0_2 a0_3 a0_4)) else (some 180))) = some r := h; clear h; replace H := Option.bind_eq_some_iff.mp H; obtain ⟨t215, A20, H⟩ := H; have A2 := Aside0.mk A20; clear A20
 by_cases c3 : t215 = true
 ·subst c3; rw [if_pos rfl] at H; have HC4 := Aside0.mk H; clear H; go_enter Tryd.func13, Tryd.ntmps13
  go_upto_region 3 with (first | ((with_reducible refine ko (N := 1) rfl ?_); refine kn ?hg (N := 1) ?hd (cs := #[.string a0_0, .int .i64 a0_1, .int .i64 a0_2, .int .u8 a0_3, .int .u64 a0_4]) (t := 26) ?hr ?_; (case hd => rfl); (case hg => rfl); (case hr => first | (go_simp; done) | (go_simp; rfl)); intro gb214 hg w5 hbox hb; have BK214 := am_ (hbox); have GW214 := am_ ((y31_ : w.heap.size ≤ gb214)); have GE214 := am_ ((y31_ : w.heap.size ≤ gb214)); replace HB := am_ (ke y1_ hb); clear hb hbox hg; obtain ⟨hcz6_0, hcz6_1, hcz6_2, hcz6_3, hcz6_4, hfz6_0, hfz6_1, hfz6_2, hfz6_3, hfz6_4⟩ := pd5_ BK214.out) | ((with_reducible refine kj (f := 15) rfl ?_); refine kw (some 6) rfl rfl Tryd.func15 (by kernel_rfl) rfl #[.string a0_0] rfl y2_ ?_; (with_reducible refine (mr17_Tenant.calls k a0_0 true _ A2.out).mono ?_); rintro e w' ⟨rfl, ⟨nd, rfl⟩⟩; refine ⟨_, rfl, ?_⟩))
  (try simp only [Act.put, List.setIfInBounds_toArray, List.set_cons_zero, List.set_cons_succ]); go_cut [8] (fun v8 wc => ∃ (kq : Nat) (x8_3 : Bool), v8 = .bool x8_3 ∧ Aside0 (mr17_Check.j0 kq x8_3 a0_0 a0_1 a0_2 a0_3 a0_4 = some r) ∧ Aside0 (kq ≤ k) ∧ Aside0 (wc.heap[gb214]? = some (.cells #[.string a0_0, .int .i64 a0_1, .int .i64 a0_2, .int .u8 a0_3, .int .u64 a0_4] 26 (0, 0))) ∧ Aside0 (Below w.heap.size w wc))
  case first =>
   have H := HC4.out; clear HC4
   by_cases c7 : a0_1 < 1
   ·rw [if_pos c7] at H; have c7b0 : decide (a0_1 < 1) = true := decide_eq_true c7; clear c7; (first | rw [c7b0] | (simp only [kT, i32_w]; rw [c7b0]) | skip); have H' := Aside0.mk H; clear H; obtain ⟨hcz8_0, hcz8_1, hcz8_2, hcz8_3, hcz8_4, hfz8_0, hfz8_1, hfz8_2, hfz8_3, hfz8_4⟩ := pd5_ BK214.out
    go_wp2
    go_meet
    case rel => exact ⟨_, (true), y3_, H', ⟨y89_⟩, ⟨by (with_reducible repeat (first | refine kf ?_ _ | refine kg ?_ | refine kd ?_ _)); exact BK214.out⟩, ⟨y57_⟩⟩
   ·rw [if_neg c7] at H; have c7b0 : decide (a0_1 < 1) = false := decide_eq_false c7; clear c7; (first | rw [c7b0] | (simp only [kT, i32_w]; rw [c7b0]) | skip); have H' := Aside0.mk H; clear H; obtain ⟨hcz9_0, hcz9_1, hcz9_2, hcz9_3, hcz9_4, hfz9_0, hfz9_1, hfz9_2, hfz9_3, hfz9_4⟩ := pd5_ BK214.out
    go_wp2
    go_meet
    case rel => exact ⟨_, (decide (a0_1 > 99)), y3_, H', ⟨y89_⟩, ⟨by (with_reducible repeat (first | refine kf ?_ _ | refine kg ?_ | refine kd ?_ _)); exact BK214.out⟩, ⟨y57_⟩⟩
  case rest =>
   clear HC4
   try clear c1
   try clear p2
   try clear c3
   try clear c7
   try clear c7b0
   try clear hcz6_0
   try clear hcz6_1
   try clear hcz6_2
   try clear hcz6_3
   try clear hcz6_4
   try clear hcz8_0
   try clear hcz8_1
   try clear hcz8_2
   try clear hcz8_3
   try clear hcz8_4
   try clear hcz9_0
   try clear hcz9_1
   try clear hcz9_2
   try clear hcz9_3
   try clear hcz9_4
   try clear hfz6_0
   try clear hfz6_1
   try clear hfz6_2
   try clear hfz6_3
   try clear hfz6_4
   try clear hfz8_0
   try clear hfz8_1
   try clear hfz8_2
   try clear hfz8_3
   try clear hfz8_4
   try clear hfz9_0
   try clear hfz9_1
   try clear hfz9_2
   try clear hfz9_3
   try clear hfz9_4
   obtain ⟨kq, x8_3, rfl, HA, HJ3, BK214, HB⟩ := hcut
   cases kq with
   | zero => exact absurd HA.out (by simp [mr17_Check.j0])
   | succ kj3 =>
    have H := HA.out; clear HA; simp only [mr17_Check.j0] at H
    by_cases c10 : x8_3 = true
    ·subst c10; rw [if_pos rfl] at H; obtain rfl := Option.some.inj H
     go_wp2
     go_ret
     exact ⟨y5_, y57_⟩
    ·replace c10 := Bool.eq_false_iff.mpr c10; subst c10; rw [if_neg (show ¬ (false = true) by decide)] at H
     by_cases c11 : a0_3 < 1
     ·rw [if_pos c11] at H; have c11b0 : decide (a0_3 < 1) = true := decide_eq_true c11; clear c11; obtain rfl := Option.some.inj H; obtain ⟨hcz12_0, hcz12_1, hcz12_2, hcz12_3, hcz12_4, hfz12_0, hfz12_1, hfz12_2, hfz12_3, hfz12_4⟩ := pd5_ BK214.out
      go_wp2
      go_ret
      exact ⟨y5_, y57_⟩
     ·rw [if_neg c11] at H; have c11b0 : decide (a0_3 < 1) = false := decide_eq_false c11; clear c11
      by_cases c13 : a0_3 > 7
      ·rw [if_pos c13] at H; have c13b0 : decide (7 < a0_3) = true := decide_eq_true c13; clear c13; obtain rfl := Option.some.inj H; obtain ⟨hcz14_0, hcz14_1, hcz14_2, hcz14_3, hcz14_4, hfz14_0, hfz14_1, hfz14_2, hfz14_3, hfz14_4⟩ := pd5_ BK214.out
       go_wp2
       go_ret
       exact ⟨y5_, y57_⟩
      ·rw [if_neg c13] at H; have c13b0 : decide (7 < a0_3) = false := decide_eq_false c13; clear c13; obtain rfl := Option.some.inj H; obtain ⟨hcz15_0, hcz15_1, hcz15_2, hcz15_3, hcz15_4, hfz15_0, hfz15_1, hfz15_2, hfz15_3, hfz15_4⟩ := pd5_ BK214.out
       go_wp2
       go_ret
       exact ⟨y5_, y57_⟩
 ·replace c3 := Bool.eq_false_iff.mpr c3; subst c3; rw [if_neg (show ¬ (false = true) by decide)] at H; obtain rfl := Option.some.inj H; go_enter Tryd.func13, Tryd.ntmps13
  go_wp2_with (first | ((with_reducible refine ko (N := 1) rfl ?_); refine kn ?hg (N := 1) ?hd (cs := #[.string a0_0, .int .i64 a0_1, .int .i64 a0_2, .int .u8 a0_3, .int .u64 a0_4]) (t := 26) ?hr ?_; (case hd => rfl); (case hg => rfl); (case hr => first | (go_simp; done) | (go_simp; rfl)); intro gb214 hg w16 hbox hb; have BK214 := am_ (hbox); have GW214 := am_ ((y31_ : w.heap.size ≤ gb214)); have GE214 := am_ ((y31_ : w.heap.size ≤ gb214)); replace HB := am_ (ke y1_ hb); clear hb hbox hg; obtain ⟨hcz17_0, hcz17_1, hcz17_2, hcz17_3, hcz17_4, hfz17_0, hfz17_1, hfz17_2, hfz17_3, hfz17_4⟩ := pd5_ BK214.out) | ((with_reducible refine kj (f := 15) rfl ?_); refine kw (some 6) rfl rfl Tryd.func15 (by kernel_rfl) rfl #[.string a0_0] rfl y2_ ?_; (with_reducible refine (mr17_Tenant.calls k a0_0 false _ A2.out).mono ?_); rintro e w' ⟨rfl, ⟨nd, rfl⟩⟩; refine ⟨_, rfl, ?_⟩))
  go_ret
  exact ⟨y5_, y57_⟩
def mr17_Keyed.f (a0_0 : Int) (a0_1 : ByteArray) : Option (Bool) := if a0_0 ≥ 1 then (if a0_0 ≤ 99 then (if (a0_1.size : Int) ≥ 16 then (some (decide ((a0_1.size : Int) ≤ 64))) else (some false)) else (some false)) else (some false)
set_option maxHeartbeats 8000000 in
set_option maxRecDepth 100000 in
theorem mr17_Keyed.calls (a0_0 : Int) (a0_1 : ByteArray) (r : Bool) (w : World) (h : mr17_Keyed.f a0_0 a0_1 = some r) :
  Calls Tryd.prog 17 #[.agg #[.int .i64 a0_0, .string a0_1]] w fun e w' => e = .returned (.bool r) ∧ Below w.heap.size w w' := by
 have hu23 := Tryd.underlying23; have HB := am_ (Below.refl w.heap.size w); have H : (if a0_0 ≥ 1 then (if a0_0 ≤ 99 then (if (a0_1.size : Int) ≥ 16 then (some (decide ((a0_1.size : Int) ≤ 64))) else (some false)) else (some false)) else (some false)) = some r := h; clear h
 by_cases c2 : a0_0 ≥ 1
 ·rw [if_pos c2] at H; have c2b0 : decide (1 ≤ a0_0) = true := decide_eq_true c2; clear c2
  by_cases c3 : a0_0 ≤ 99
  ·rw [if_pos c3] at H; have c3b0 : decide (a0_0 ≤ 99) = true := decide_eq_true c3; clear c3
   by_cases c4 : (a0_1.size : Int) ≥ 16
   ·rw [if_pos c4] at H; have c4b0 : decide (16 ≤ (a0_1.size : Int)) = true := decide_eq_true c4; have c4b1 : decide (16 ≤ a0_1.size) = true := decide_eq_true (by omega); clear c4; obtain rfl := Option.some.inj H; go_enter Tryd.func17, Tryd.ntmps17
    go_wp2_with (first | ((with_reducible refine ko (N := 1) rfl ?_); (try (refine kx (by rfl) ?_; dsimp only)); refine kn ?hg (N := 1) ?hd (cs := #[.int .i64 a0_0, .string a0_1]) (t := 23) ?hr ?_; (case hd => rfl); (case hg => rfl); (case hr => first | (go_simp; done) | (go_simp; rfl)); intro gb216 hg w5 hbox hb; have BK216 := am_ (hbox); have GW216 := am_ ((y31_ : w.heap.size ≤ gb216)); have GE216 := am_ ((y31_ : w.heap.size ≤ gb216)); replace HB := am_ (ke y1_ hb); clear hb hbox hg; obtain ⟨hcz6_0, hcz6_1, hfz6_0, hfz6_1⟩ := pd2_ BK216.out))
    go_ret
    exact ⟨y5_, y90_⟩
   ·rw [if_neg c4] at H; have c4b0 : decide (16 ≤ (a0_1.size : Int)) = false := decide_eq_false c4; have c4b1 : decide (16 ≤ a0_1.size) = false := decide_eq_false (by omega); clear c4; obtain rfl := Option.some.inj H; go_enter Tryd.func17, Tryd.ntmps17
    go_wp2_with (first | ((with_reducible refine ko (N := 1) rfl ?_); (try (refine kx (by rfl) ?_; dsimp only)); refine kn ?hg (N := 1) ?hd (cs := #[.int .i64 a0_0, .string a0_1]) (t := 23) ?hr ?_; (case hd => rfl); (case hg => rfl); (case hr => first | (go_simp; done) | (go_simp; rfl)); intro gb216 hg w7 hbox hb; have BK216 := am_ (hbox); have GW216 := am_ ((y31_ : w.heap.size ≤ gb216)); have GE216 := am_ ((y31_ : w.heap.size ≤ gb216)); replace HB := am_ (ke y1_ hb); clear hb hbox hg; obtain ⟨hcz8_0, hcz8_1, hfz8_0, hfz8_1⟩ := pd2_ BK216.out))
    go_ret
    exact ⟨y5_, y90_⟩
  ·rw [if_neg c3] at H; have c3b0 : decide (a0_0 ≤ 99) = false := decide_eq_false c3; clear c3; obtain rfl := Option.some.inj H; go_enter Tryd.func17, Tryd.ntmps17
   go_wp2_with (first | ((with_reducible refine ko (N := 1) rfl ?_); (try (refine kx (by rfl) ?_; dsimp only)); refine kn ?hg (N := 1) ?hd (cs := #[.int .i64 a0_0, .string a0_1]) (t := 23) ?hr ?_; (case hd => rfl); (case hg => rfl); (case hr => first | (go_simp; done) | (go_simp; rfl)); intro gb216 hg w9 hbox hb; have BK216 := am_ (hbox); have GW216 := am_ ((y31_ : w.heap.size ≤ gb216)); have GE216 := am_ ((y31_ : w.heap.size ≤ gb216)); replace HB := am_ (ke y1_ hb); clear hb hbox hg; obtain ⟨hcz10_0, hcz10_1, hfz10_0, hfz10_1⟩ := pd2_ BK216.out))
   go_ret
   exact ⟨y5_, y90_⟩
 ·rw [if_neg c2] at H; have c2b0 : decide (1 ≤ a0_0) = false := decide_eq_false c2; clear c2; obtain rfl := Option.some.inj H; go_enter Tryd.func17, Tryd.ntmps17
  go_wp2_with (first | ((with_reducible refine ko (N := 1) rfl ?_); (try (refine kx (by rfl) ?_; dsimp only)); refine kn ?hg (N := 1) ?hd (cs := #[.int .i64 a0_0, .string a0_1]) (t := 23) ?hr ?_; (case hd => rfl); (case hg => rfl); (case hr => first | (go_simp; done) | (go_simp; rfl)); intro gb216 hg w11 hbox hb; have BK216 := am_ (hbox); have GW216 := am_ ((y31_ : w.heap.size ≤ gb216)); have GE216 := am_ ((y31_ : w.heap.size ≤ gb216)); replace HB := am_ (ke y1_ hb); clear hb hbox hg; obtain ⟨hcz12_0, hcz12_1, hfz12_0, hfz12_1⟩ := pd2_ BK216.out))
  go_ret
  exact ⟨y5_, y90_⟩
def mr01_Bits.f (l0 : List Int) (a1 : Int) : Option (List Bool) := if l0.length ≤ 1000000 then (if l0.all (fun x => decide (0 ≤ x ∧ x < 256)) = true then (if 0 ≤ a1 then (if a1 ≤ 8 * (l0.length : Int) then some (bitsOf l0 a1.toNat) else none) else none) else none) else none
theorem mr01_Bits.calls (A0 : Option Addr) (c0 : Nat) (l0 : List Int) (a1 : Int) (r : List Bool) (w : World) (hr0 : Kd.C (Kd.int .u8) w A0 l0.length l0) (hc0 : l0.length ≤ c0) (h : mr01_Bits.f l0 a1 = some r) :
  Calls Tryd.prog 50 #[.slice A0 l0.length c0, .int .i64 a1] w fun e w' => ∃ v0_ : Value, e = .returned (v0_) ∧ Kd.R Kd.bool 4 w' w.heap.size (fun _ => True) v0_ r ∧ Below w.heap.size w w' := by
 unfold mr01_Bits.f at h
 split at h
 ·rename_i h1
  split at h
  ·rename_i h2
   split at h
   ·rename_i h3
    split at h
    ·rename_i h4
     obtain rfl := Option.some.inj h; obtain ⟨n, rfl⟩ := Int.eq_ofNat_of_zero_le h3; rw [Int.toNat_natCast]; refine (rbits_calls w A0 c0 l0 n hr0 (fun x hx => of_decide_eq_true (List.all_eq_true.1 h2 x hx)) (by omega) h1).mono ?_; rintro e w' ⟨v, rfl, hR, hB⟩
     exact ⟨v, rfl, Kd.R_mono hR (fun _ _ => trivial), hB⟩
    ·cases h
   ·cases h
  ·cases h
 ·cases h
def mr01_Number.f (l0 : List Bool) : Option (Int) := if l0.length ≤ 64 then some ((Bq.bnum l0 : Nat) : Int) else none
theorem mr01_Number.calls (A0 : Option Addr) (c0 : Nat) (l0 : List Bool) (r : Int) (w : World) (hr0 : Kd.C Kd.bool w A0 l0.length l0) (hc0 : l0.length ≤ c0) (h : mr01_Number.f l0 = some r) :
  Calls Tryd.prog 51 #[.slice A0 l0.length c0] w fun e w' => e = .returned (.int .u64 r) ∧ Drawn0 w w' := by
 unfold mr01_Number.f at h
 split at h
 ·rename_i h1
  obtain rfl := Option.some.inj h; refine (number_calls w A0 c0 l0 hr0 h1).mono ?_; rintro e w' ⟨rfl, rfl⟩
  exact ⟨rfl, Drawn0.refl _⟩
 ·cases h
end Go.Proofs.YtkkomfomjpcbfaaDoor.PTS
