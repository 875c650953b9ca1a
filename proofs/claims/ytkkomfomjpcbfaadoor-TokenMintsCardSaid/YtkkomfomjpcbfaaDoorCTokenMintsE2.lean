import Derived.Test.YtkkomfomjpcbfaaDoorProg
import Derived.Below
import Derived.Deep.Draws
import Derived.Deep.AppendLies
import Derived.Maps.AppendAt
import Derived.OwnWalk
import Derived.Laws.BytesArg
import Derived.Laws.MakeOwn
import Derived.Laws.OwnMore
import Derived.Deep.OwnRows
import Derived.Tactics
import Derived.Lib.ConvBytes
import Derived.Laws.Slices
import Derived.WalkKit
import Derived.KernelRfl
import Derived.RowKit3
import Derived.Deep.LoopGhost
import Derived.Deep.QuietTactic
import Derived.BigQuiet
import Derived.WideLaws
import Derived.Deep.DeepCutAuto
import Derived.Deep.CutBlock
import Derived.Deep.RegionHeld3
import Derived.Laws.Rows
import Derived.Lib.AppendStr
import Derived.ArgAppend
import Derived.Laws.IdiomCopy
import Derived.OrdersHeld
import Derived.Laws.BitsLemmas
import Derived.RowKit
import Derived.Test.YtkkomfomjpcbfaaDoorCTokenMintsPU0
import Derived.Test.YtkkomfomjpcbfaaDoorCTokenMintsWGuard
import Derived.Test.YtkkomfomjpcbfaaDoorCTokenMintsWWords
import Derived.Lib.OthersKept
import Derived.Laws.RangeAny
import Derived.Test.YtkkomfomjpcbfaaDoorCTokenMintsH11
import Derived.Test.YtkkomfomjpcbfaaDoorCTokenMintsE1
import Derived.Test.YtkkomfomjpcbfaaDoorCTokenMintsHA
namespace Go.Proofs.YtkkomfomjpcbfaaDoor.Bq
end Go.Proofs.YtkkomfomjpcbfaaDoor.Bq
section
namespace Go.Proofs.YtkkomfomjpcbfaaDoor
theorem y1_ {p : Prop} (h : p := by repeat (first | (with_reducible first | exact HB.out | apply below_alloc | apply pw_below_drewN | apply below_drew1) | exact HB.out)) : p := h
theorem y2_ {p : Prop} (h : p := by (try simp only [List.map_toArray, List.map_cons, List.map_nil]); first | done | rfl | (simp only [List.length_drop, List.length_take]; rfl)) : p := h
theorem y3_ {p : Prop} (h : p := by repeat (first | (with_reducible first | exact HB.out | apply below_alloc | apply pw_below_drewN | apply below_drew1 | refine below_set ?_ GE292.out | refine below_set ?_ GE293.out) | exact HB.out)) : p := h
theorem y4_ {p : Prop} (h : p := by first | rfl | (simp only [List.length_drop, List.length_take]; done) | (simp; done) | (simp [*]; done) | (simp [Kd.ne_nil_, Kd.eq_nil_]; done)) : p := h
theorem y5_ {p : Prop} (h : p := by repeat (first | (with_reducible first | exact HB.out | apply below_alloc | apply pw_below_drewN | apply below_drew1 | refine below_set ?_ GE154.out | refine below_set ?_ GE155.out) | exact HB.out)) : p := h
theorem y6_ {p : Prop} (h : p := by first | rfl | (simp [errW_none, errW_some] <;> rfl) | (simp [*, errW_none, errW_some] <;> rfl)) : p := h
theorem y7_ {p : Prop} (h : p := by repeat (first | (with_reducible first | exact HB.out | apply below_alloc | apply pw_below_drewN | apply below_drew1 | refine below_set ?_ GE251.out) | exact HB.out)) : p := h
theorem y8_ {p : Prop} (h : p := by (with_reducible repeat (first | refine blk_drewN ?_ _ | refine blk_drew ?_ | refine blk_alloc ?_ _)); refine blk_put (cs := #[.string (⟨#[]⟩ : ByteArray), .int .i64 0, .int .i64 0, .int .u8 0, .int .u64 0]) ?_ 4 _ rfl; (with_reducible repeat (first | refine blk_drewN ?_ _ | refine blk_drew ?_ | refine blk_alloc ?_ _)); refine blk_put (cs := #[.string (⟨#[]⟩ : ByteArray), .int .i64 0, .int .i64 0, .int .u8 0, .int .u64 0]) ?_ 3 _ rfl; (with_reducible repeat (first | refine blk_drewN ?_ _ | refine blk_drew ?_ | refine blk_alloc ?_ _)); refine blk_put (cs := #[.string (⟨#[]⟩ : ByteArray), .int .i64 0, .int .i64 0, .int .u8 0, .int .u64 0]) ?_ 2 _ rfl; (with_reducible repeat (first | refine blk_drewN ?_ _ | refine blk_drew ?_ | refine blk_alloc ?_ _)); refine blk_put (cs := #[.string (⟨#[]⟩ : ByteArray), .int .i64 0, .int .i64 0, .int .u8 0, .int .u64 0]) ?_ 1 _ rfl; (with_reducible repeat (first | refine blk_drewN ?_ _ | refine blk_drew ?_ | refine blk_alloc ?_ _)); refine blk_put (cs := #[.string (⟨#[]⟩ : ByteArray), .int .i64 0, .int .i64 0, .int .u8 0, .int .u64 0]) ?_ 0 _ rfl; (with_reducible repeat (first | refine blk_drewN ?_ _ | refine blk_drew ?_ | refine blk_alloc ?_ _)); exact BK176.out) : p := h
theorem y9_ {p : Prop} (h : p := by repeat (first | (with_reducible first | exact HB.out | apply below_alloc | apply pw_below_drewN | apply below_drew1 | refine below_set ?_ GE176.out | refine below_set ?_ GE183.out | refine below_set ?_ GE184.out) | exact HB.out)) : p := h
theorem y10_ {p : Prop} (h : p := by repeat (first | exact Drawn0.refl _ | apply Drawn0.step)) : p := h
theorem y11_ {p : Prop} (h : p := by repeat (first | (with_reducible first | exact HB.out | apply below_alloc | apply pw_below_drewN | apply below_drew1 | refine below_set ?_ GE277.out | refine below_set ?_ GE278.out) | exact HB.out)) : p := h
theorem y12_ {p : Prop} (h : p := by (with_reducible repeat (first | refine blk_drewN ?_ _ | refine blk_drew ?_ | refine blk_alloc ?_ _)); exact BK292.out) : p := h
theorem y13_ {p : Prop} (h : p := by (with_reducible repeat (first | refine blk_drewN ?_ _ | refine blk_drew ?_ | refine blk_alloc ?_ _)); exact BK293.out) : p := h
theorem y14_ {p : Prop} (h : p := by (with_reducible repeat (first | refine blk_drewN ?_ _ | refine blk_drew ?_ | refine blk_alloc ?_ _)); refine blk_put (cs := #[.string (strOfNums ((l0.take ((ji16) : Int).toNat).drop (t157 : Int).toNat)), .int .i64 (wrap64 (t161)), .int .i64 t165, .int .u8 (rd L37_ t166), .int .u64 0]) ?_ 4 _ rfl; (with_reducible repeat (first | refine blk_drewN ?_ _ | refine blk_drew ?_ | refine blk_alloc ?_ _)); refine blk_put (cs := #[.string (strOfNums ((l0.take ((ji16) : Int).toNat).drop (t157 : Int).toNat)), .int .i64 (wrap64 (t161)), .int .i64 t165, .int .u8 0, .int .u64 0]) ?_ 3 _ rfl; (with_reducible repeat (first | refine blk_drewN ?_ _ | refine blk_drew ?_ | refine blk_alloc ?_ _)); refine blk_put (cs := #[.string (strOfNums ((l0.take ((ji16) : Int).toNat).drop (t157 : Int).toNat)), .int .i64 (wrap64 (t161)), .int .i64 0, .int .u8 0, .int .u64 0]) ?_ 2 _ rfl; (with_reducible repeat (first | refine blk_drewN ?_ _ | refine blk_drew ?_ | refine blk_alloc ?_ _)); refine blk_put (cs := #[.string (strOfNums ((l0.take ((ji16) : Int).toNat).drop (t157 : Int).toNat)), .int .i64 0, .int .i64 0, .int .u8 0, .int .u64 0]) ?_ 1 _ rfl; (with_reducible repeat (first | refine blk_drewN ?_ _ | refine blk_drew ?_ | refine blk_alloc ?_ _)); refine blk_put (cs := #[.string (⟨#[]⟩ : ByteArray), .int .i64 0, .int .i64 0, .int .u8 0, .int .u64 0]) ?_ 0 _ rfl; (with_reducible repeat (first | refine blk_drewN ?_ _ | refine blk_drew ?_ | refine blk_alloc ?_ _)); exact BK154.out) : p := h
theorem y15_ {p : Prop} (h : p := by repeat (first | (with_reducible first | exact HB.out | apply below_alloc | apply pw_below_drewN | apply below_drew1 | refine below_set ?_ GE118.out) | exact HB.out)) : p := h
theorem y16_ {p : Prop} (h : p := by first | (with_reducible assumption) | assumption) : p := h
theorem y17_ {p : Prop} (h : p := by (with_reducible repeat (first | refine blk_drewN ?_ _ | refine blk_drew ?_ | refine blk_alloc ?_ _)); exact BK277.out) : p := h
theorem y18_ {p : Prop} (h : p := by (with_reducible repeat (first | refine blk_drewN ?_ _ | refine blk_drew ?_ | refine blk_alloc ?_ _)); refine blk_put (cs := #[.string t177, .int .i64 t178, .int .i64 t179, .int .u8 t180, .int .u64 0]) ?_ 4 _ rfl; (with_reducible repeat (first | refine blk_drewN ?_ _ | refine blk_drew ?_ | refine blk_alloc ?_ _)); refine blk_put (cs := #[.string t177, .int .i64 t178, .int .i64 t179, .int .u8 0, .int .u64 0]) ?_ 3 _ rfl; (with_reducible repeat (first | refine blk_drewN ?_ _ | refine blk_drew ?_ | refine blk_alloc ?_ _)); refine blk_put (cs := #[.string t177, .int .i64 t178, .int .i64 0, .int .u8 0, .int .u64 0]) ?_ 2 _ rfl; (with_reducible repeat (first | refine blk_drewN ?_ _ | refine blk_drew ?_ | refine blk_alloc ?_ _)); refine blk_put (cs := #[.string t177, .int .i64 0, .int .i64 0, .int .u8 0, .int .u64 0]) ?_ 1 _ rfl; (with_reducible repeat (first | refine blk_drewN ?_ _ | refine blk_drew ?_ | refine blk_alloc ?_ _)); refine blk_put (cs := #[.string (⟨#[]⟩ : ByteArray), .int .i64 0, .int .i64 0, .int .u8 0, .int .u64 0]) ?_ 0 _ rfl; (with_reducible repeat (first | refine blk_drewN ?_ _ | refine blk_drew ?_ | refine blk_alloc ?_ _)); exact BK183.out) : p := h
theorem y19_ {p : Prop} (h : p := by first | rfl | (simp; done) | (simp [*]; done)) : p := h
theorem y20_ {p : Prop} (h : p := by (with_reducible repeat (first | refine blk_drewN ?_ _ | refine blk_drew ?_ | refine blk_alloc ?_ _)); exact BK251.out) : p := h
theorem y21_ {p : Prop} (h : p := by (with_reducible repeat (first | refine blk_drewN ?_ _ | refine blk_drew ?_ | refine blk_alloc ?_ _)); exact BK176.out) : p := h
theorem y22_ {p : Prop} (h : p := by repeat (first | (with_reducible first | exact HB.out | apply below_alloc | apply pw_below_drewN | apply below_drew1 | refine below_set ?_ GE277.out) | exact HB.out)) : p := h
theorem y23_ {p : Prop} (h : p := by (with_reducible repeat (first | refine blk_drewN ?_ _ | refine blk_drew ?_ | refine blk_alloc ?_ _)); refine blk_far ?_ NB176_183.out _; (with_reducible repeat (first | refine blk_drewN ?_ _ | refine blk_drew ?_ | refine blk_alloc ?_ _)); refine blk_far ?_ NB176_183.out _; (with_reducible repeat (first | refine blk_drewN ?_ _ | refine blk_drew ?_ | refine blk_alloc ?_ _)); refine blk_far ?_ NB176_183.out _; (with_reducible repeat (first | refine blk_drewN ?_ _ | refine blk_drew ?_ | refine blk_alloc ?_ _)); refine blk_far ?_ NB176_183.out _; (with_reducible repeat (first | refine blk_drewN ?_ _ | refine blk_drew ?_ | refine blk_alloc ?_ _)); refine blk_far ?_ NB176_183.out _; (with_reducible repeat (first | refine blk_drewN ?_ _ | refine blk_drew ?_ | refine blk_alloc ?_ _)); exact BK176.out) : p := h
theorem y24_ {p : Prop} (h : p := by (with_reducible repeat (first | refine blk_drewN ?_ _ | refine blk_drew ?_ | refine blk_alloc ?_ _)); refine blk_far ?_ NB154_155.out _; (with_reducible repeat (first | refine blk_drewN ?_ _ | refine blk_drew ?_ | refine blk_alloc ?_ _)); refine blk_far ?_ NB154_155.out _; (with_reducible repeat (first | refine blk_drewN ?_ _ | refine blk_drew ?_ | refine blk_alloc ?_ _)); exact BK154.out) : p := h
theorem y25_ {p : Prop} (h : p := by repeat (first | (with_reducible first | exact HB.out | apply below_alloc | apply pw_below_drewN | apply below_drew1 | refine below_set ?_ GE188.out | refine below_set ?_ GE189.out) | exact HB.out)) : p := h
theorem y26_ {p : Prop} (h : p := by (with_reducible repeat (first | refine blk_drewN ?_ _ | refine blk_drew ?_ | refine blk_alloc ?_ _)); exact BK278.out) : p := h
theorem y27_ {p : Prop} (h : p := by (with_reducible repeat (first | refine blk_drewN ?_ _ | refine blk_drew ?_ | refine blk_alloc ?_ _)); refine blk_put (cs := #[.string (strOfNums ((l0.take ((ji16) : Int).toNat).drop (t157 : Int).toNat)), .int .i64 (wrap64 (t161)), .int .i64 t165, .int .u8 (rd L37_ t166), .int .u64 0]) ?_ 4 _ rfl; (with_reducible repeat (first | refine blk_drewN ?_ _ | refine blk_drew ?_ | refine blk_alloc ?_ _)); refine blk_put (cs := #[.string (strOfNums ((l0.take ((ji16) : Int).toNat).drop (t157 : Int).toNat)), .int .i64 (wrap64 (t161)), .int .i64 t165, .int .u8 0, .int .u64 0]) ?_ 3 _ rfl; (with_reducible repeat (first | refine blk_drewN ?_ _ | refine blk_drew ?_ | refine blk_alloc ?_ _)); exact BK155.out) : p := h
theorem y28_ {p : Prop} (h : p := by repeat (first | (with_reducible first | exact HB.out | apply below_alloc | apply pw_below_drewN | apply below_drew1 | refine below_set ?_ GE188.out | refine below_set ?_ GE189.out | refine below_set ?_ GE201.out) | exact HB.out)) : p := h
theorem y29_ {p : Prop} (h : p := by rw [hg]; exact (below_size y1_)) : p := h
theorem y30_ {p : Prop} (h : p := by repeat (first | (with_reducible first | exact HB.out | apply below_alloc | apply pw_below_drewN | apply below_drew1 | refine below_set ?_ GE102.out) | exact HB.out)) : p := h
theorem y31_ {p : Prop} (h : p := by repeat (first | (with_reducible first | exact HB.out | apply below_alloc | apply pw_below_drewN | apply below_drew1 | refine below_set ?_ GE188.out | refine below_set ?_ GE189.out | refine below_set ?_ GE201.out | refine below_set ?_ GE211.out) | exact HB.out)) : p := h
theorem y32_ {p : Prop} (h : p := by (with_reducible repeat (first | refine blk_drewN ?_ _ | refine blk_drew ?_ | refine blk_alloc ?_ _)); refine blk_put (cs := #[.string (⟨#[]⟩ : ByteArray), .int .i64 0, .int .i64 0, .int .u8 0, .int .u64 0]) ?_ 4 _ rfl; (with_reducible repeat (first | refine blk_drewN ?_ _ | refine blk_drew ?_ | refine blk_alloc ?_ _)); refine blk_put (cs := #[.string (⟨#[]⟩ : ByteArray), .int .i64 0, .int .i64 0, .int .u8 0, .int .u64 0]) ?_ 3 _ rfl; (with_reducible repeat (first | refine blk_drewN ?_ _ | refine blk_drew ?_ | refine blk_alloc ?_ _)); refine blk_put (cs := #[.string (⟨#[]⟩ : ByteArray), .int .i64 0, .int .i64 0, .int .u8 0, .int .u64 0]) ?_ 2 _ rfl; (with_reducible repeat (first | refine blk_drewN ?_ _ | refine blk_drew ?_ | refine blk_alloc ?_ _)); refine blk_put (cs := #[.string (⟨#[]⟩ : ByteArray), .int .i64 0, .int .i64 0, .int .u8 0, .int .u64 0]) ?_ 1 _ rfl; (with_reducible repeat (first | refine blk_drewN ?_ _ | refine blk_drew ?_ | refine blk_alloc ?_ _)); refine blk_put (cs := #[.string (⟨#[]⟩ : ByteArray), .int .i64 0, .int .i64 0, .int .u8 0, .int .u64 0]) ?_ 0 _ rfl; (with_reducible repeat (first | refine blk_drewN ?_ _ | refine blk_drew ?_ | refine blk_alloc ?_ _)); exact BK155.out) : p := h
theorem y33_ {p : Prop} (h : p := by repeat (first | (with_reducible first | exact HB.out | apply below_alloc | apply pw_below_drewN | apply below_drew1 | refine below_set ?_ GE176.out) | exact HB.out)) : p := h
theorem y34_ {p : Prop} (h : p := by (with_reducible repeat (first | refine blk_drewN ?_ _ | refine blk_drew ?_ | refine blk_alloc ?_ _)); exact BK184.out) : p := h
theorem y35_ {p : Prop} (h : p := by (with_reducible repeat (first | refine blk_drewN ?_ _ | refine blk_drew ?_ | refine blk_alloc ?_ _)); exact BK183.out) : p := h
theorem y36_ {p : Prop} (h : p := by repeat (first | (with_reducible first | exact HB.out | apply below_alloc | apply pw_below_drewN | apply below_drew1 | refine below_set ?_ GE176.out | refine below_set ?_ GE183.out | refine below_set ?_ GE184.out | refine below_set ?_ GE186.out) | exact HB.out)) : p := h
theorem y37_ {p : Prop} (h : p := by (with_reducible repeat (first | apply Kd.R_alloc | apply Kd.R_drewN | apply Kd.R_drew)); exact (Q_HO266 h0_ h1_)) : p := h
theorem y38_ {p : Prop} (h : p := by repeat (first | (with_reducible first | exact HB.out | apply below_alloc | apply pw_below_drewN | apply below_drew1 | refine below_set ?_ GE214.out) | exact HB.out)) : p := h
theorem y39_ {p : Prop} (h : p := by (with_reducible repeat (first | refine blk_drewN ?_ _ | refine blk_drew ?_ | refine blk_alloc ?_ _)); refine blk_put (cs := #[.int .i64 1, .string (⟨#[]⟩ : ByteArray)]) ?_ 1 _ rfl; (with_reducible repeat (first | refine blk_drewN ?_ _ | refine blk_drew ?_ | refine blk_alloc ?_ _)); refine blk_put (cs := #[.int .i64 0, .string (⟨#[]⟩ : ByteArray)]) ?_ 0 _ rfl; (with_reducible repeat (first | refine blk_drewN ?_ _ | refine blk_drew ?_ | refine blk_alloc ?_ _)); exact BK188.out) : p := h
theorem y40_ {p : Prop} (h : p := by (with_reducible repeat (first | apply Kd.V_alloc | apply Kd.V_drewN | apply Kd.V_drew)); exact (Q_HO257 h0_)) : p := h
theorem y41_ {p : Prop} (h : p := by (with_reducible repeat (first | refine blk_drewN ?_ _ | refine blk_drew ?_ | refine blk_alloc ?_ _)); exact BK189.out) : p := h
theorem y42_ {p : Prop} (h : p := by (with_reducible repeat (first | refine blk_drewN ?_ _ | refine blk_drew ?_ | refine blk_alloc ?_ _)); exact BK188.out) : p := h
theorem y43_ {p : Prop} (h : p := by (with_reducible repeat (first | refine blk_drewN ?_ _ | refine blk_drew ?_ | refine blk_alloc ?_ _)); exact BK118.out) : p := h
theorem y44_ {p : Prop} (h : p := by (with_reducible repeat (first | apply Kd.R_alloc | apply Kd.R_drewN | apply Kd.R_drew)); exact HO127.out) : p := h
theorem y45_ {p : Prop} (h : p := by (with_reducible repeat (first | refine blk_drewN ?_ _ | refine blk_drew ?_ | refine blk_alloc ?_ _)); refine blk_far ?_ NB154_155.out _; (with_reducible repeat (first | refine blk_drewN ?_ _ | refine blk_drew ?_ | refine blk_alloc ?_ _)); refine blk_far ?_ NB154_155.out _; (with_reducible repeat (first | refine blk_drewN ?_ _ | refine blk_drew ?_ | refine blk_alloc ?_ _)); refine blk_far ?_ NB154_155.out _; (with_reducible repeat (first | refine blk_drewN ?_ _ | refine blk_drew ?_ | refine blk_alloc ?_ _)); refine blk_far ?_ NB154_155.out _; (with_reducible repeat (first | refine blk_drewN ?_ _ | refine blk_drew ?_ | refine blk_alloc ?_ _)); refine blk_far ?_ NB154_155.out _; (with_reducible repeat (first | refine blk_drewN ?_ _ | refine blk_drew ?_ | refine blk_alloc ?_ _)); exact BK154.out) : p := h
theorem y46_ {p : Prop} (h : p := by (with_reducible repeat (first | refine blk_drewN ?_ _ | refine blk_drew ?_ | refine blk_alloc ?_ _)); refine blk_put (cs := #[.string ((rd_T43 l1 x26_1).f0), .int .i64 ((rd_T43 l1 x26_1).f1.f0), .string (⟨#[]⟩ : ByteArray)]) ?_ 2 _ rfl; (with_reducible repeat (first | refine blk_drewN ?_ _ | refine blk_drew ?_ | refine blk_alloc ?_ _)); refine blk_put (cs := #[.string ((rd_T43 l1 x26_1).f0), .int .i64 0, .string (⟨#[]⟩ : ByteArray)]) ?_ 1 _ rfl; (with_reducible repeat (first | refine blk_drewN ?_ _ | refine blk_drew ?_ | refine blk_alloc ?_ _)); refine blk_put (cs := #[.string (⟨#[]⟩ : ByteArray), .int .i64 0, .string (⟨#[]⟩ : ByteArray)]) ?_ 0 _ rfl; (with_reducible repeat (first | refine blk_drewN ?_ _ | refine blk_drew ?_ | refine blk_alloc ?_ _)); exact BK186.out) : p := h
theorem y47_ {p : Prop} (h : p := by (with_reducible repeat (first | refine blk_drewN ?_ _ | refine blk_drew ?_ | refine blk_alloc ?_ _)); exact BK154.out) : p := h
theorem y48_ {p : Prop} (h : p := by (with_reducible repeat (first | refine blk_drewN ?_ _ | refine blk_drew ?_ | refine blk_alloc ?_ _)); refine blk_put (cs := #[.string (strOfNums ((l0.take ((ji16) : Int).toNat).drop (t157 : Int).toNat)), .int .i64 (wrap64 (t161)), .int .i64 0, .int .u8 0, .int .u64 0]) ?_ 2 _ rfl; (with_reducible repeat (first | refine blk_drewN ?_ _ | refine blk_drew ?_ | refine blk_alloc ?_ _)); refine blk_put (cs := #[.string (strOfNums ((l0.take ((ji16) : Int).toNat).drop (t157 : Int).toNat)), .int .i64 0, .int .i64 0, .int .u8 0, .int .u64 0]) ?_ 1 _ rfl; (with_reducible repeat (first | refine blk_drewN ?_ _ | refine blk_drew ?_ | refine blk_alloc ?_ _)); exact BK155.out) : p := h
theorem y49_ {p : Prop} (h : p := by repeat (first | (with_reducible first | exact HB.out | apply below_alloc | apply pw_below_drewN | apply below_drew1 | refine below_set ?_ GE176.out | refine below_set ?_ GE183.out) | exact HB.out)) : p := h
theorem y50_ {p : Prop} (h : p := by (with_reducible repeat (first | apply Kd.R_alloc | apply Kd.R_drewN | apply Kd.R_drew)); exact (Kd.R_mono (Kd.R_far (p := ⟨gb201, 4, none⟩) (Kd.R_far (p := ⟨gb201, 3, none⟩) (Kd.R_far (p := ⟨gb201, 2, none⟩) (Kd.R_far (p := ⟨gb201, 1, none⟩) (Kd.R_far (p := ⟨gb201, 0, none⟩) (Kd.R_types HO194.out BK201.out (by decide)) (fun _ hk => hk.2) (.string t195)) (fun _ hk => hk.2) (.int .i64 t196)) (fun _ hk => hk.2) (.int .i64 t197)) (fun _ hk => hk.2) (.int .u8 t198)) (fun _ hk => hk.2) (.int .u64 t199)) (fun _ h_ => h_.1))) : p := h
theorem y51_ {p : Prop} (h : p := by (with_reducible repeat (first | refine blk_drewN ?_ _ | refine blk_drew ?_ | refine blk_alloc ?_ _)); refine blk_far ?_ NB184_186.out _; (with_reducible repeat (first | refine blk_drewN ?_ _ | refine blk_drew ?_ | refine blk_alloc ?_ _)); refine blk_far ?_ NB184_186.out _; (with_reducible repeat (first | refine blk_drewN ?_ _ | refine blk_drew ?_ | refine blk_alloc ?_ _)); refine blk_far ?_ NB184_186.out _; (with_reducible repeat (first | refine blk_drewN ?_ _ | refine blk_drew ?_ | refine blk_alloc ?_ _)); exact BK184.out) : p := h
theorem y52_ {p : Prop} (h : p := by (with_reducible repeat (first | refine blk_drewN ?_ _ | refine blk_drew ?_ | refine blk_alloc ?_ _)); refine blk_far ?_ NB183_186.out _; (with_reducible repeat (first | refine blk_drewN ?_ _ | refine blk_drew ?_ | refine blk_alloc ?_ _)); refine blk_far ?_ NB183_186.out _; (with_reducible repeat (first | refine blk_drewN ?_ _ | refine blk_drew ?_ | refine blk_alloc ?_ _)); refine blk_far ?_ NB183_186.out _; (with_reducible repeat (first | refine blk_drewN ?_ _ | refine blk_drew ?_ | refine blk_alloc ?_ _)); exact BK183.out) : p := h
theorem y53_ {p : Prop} (h : p := by (with_reducible repeat (first | refine blk_drewN ?_ _ | refine blk_drew ?_ | refine blk_alloc ?_ _)); refine blk_far ?_ NB176_186.out _; (with_reducible repeat (first | refine blk_drewN ?_ _ | refine blk_drew ?_ | refine blk_alloc ?_ _)); refine blk_far ?_ NB176_186.out _; (with_reducible repeat (first | refine blk_drewN ?_ _ | refine blk_drew ?_ | refine blk_alloc ?_ _)); refine blk_far ?_ NB176_186.out _; (with_reducible repeat (first | refine blk_drewN ?_ _ | refine blk_drew ?_ | refine blk_alloc ?_ _)); exact BK176.out) : p := h
theorem y54_ {p : Prop} (h : p := by (with_reducible repeat (first | apply Kd.R_alloc | apply Kd.R_drewN | apply Kd.R_drew)); exact HO254.out) : p := h
theorem y55_ {p : Prop} (h : p := by (with_reducible repeat (first | apply Kd.R_alloc | apply Kd.R_drewN | apply Kd.R_drew)); exact HO133.out) : p := h
theorem y56_ {p : Prop} (h : p := by (with_reducible repeat (first | apply Kd.R_alloc | apply Kd.R_drewN | apply Kd.R_drew)); exact HO_3.out) : p := h
theorem y57_ {p : Prop} (h : p := by repeat (first | (with_reducible first | exact HB.out | apply below_alloc | apply pw_below_drewN | apply below_drew1 | refine below_set ?_ GE216.out) | exact HB.out)) : p := h
theorem y58_ {p : Prop} (h : p := by repeat (first | (with_reducible first | exact HB.out | apply below_alloc | apply pw_below_drewN | apply below_drew1 | refine below_set ?_ GE104.out) | exact HB.out)) : p := h
theorem y59_ {p : Prop} (h : p := by first | rfl | (simp; done) | (simp [*]; done) | (simp [Kd.ne_nil_, Kd.eq_nil_]; done)) : p := h
theorem y60_ {p : Prop} (h : p := by first | rfl | (simp [errW_none, errW_some] <;> rfl) | (simp only [← hji16, ← hji45]; first | rfl | (simp [errW_none, errW_some] <;> rfl)) | (simp [*, errW_none, errW_some] <;> rfl)) : p := h
theorem y61_ {p : Prop} (h : p := by (with_reducible repeat (first | refine blk_drewN ?_ _ | refine blk_drew ?_ | refine blk_alloc ?_ _)); exact BK201.out) : p := h
theorem y62_ {p : Prop} (h : p := by (with_reducible repeat (first | refine blk_drewN ?_ _ | refine blk_drew ?_ | refine blk_alloc ?_ _)); exact BK155.out) : p := h
theorem y63_ {p : Prop} (h : p := by (with_reducible repeat (first | refine blk_drewN ?_ _ | refine blk_drew ?_ | refine blk_alloc ?_ _)); exact BK102.out) : p := h
theorem y64_ {p : Prop} (h : p := by (with_reducible repeat (first | refine blk_drewN ?_ _ | refine blk_drew ?_ | refine blk_alloc ?_ _)); refine blk_put (cs := #[.string (⟨#[]⟩ : ByteArray), .int .i64 0, .int .i64 0, .int .u8 0, .int .u64 0]) ?_ 0 _ rfl; (with_reducible repeat (first | refine blk_drewN ?_ _ | refine blk_drew ?_ | refine blk_alloc ?_ _)); exact BK155.out) : p := h
theorem y65_ {p : Prop} (h : p := by first | rfl | (simp; done) | ((simp only [← hji11, ← hji13] <;> (first | rfl | simp)); done) | (congr 1; first | assumption | (symm; assumption)) | (simp [*]; done)) : p := h
theorem y66_ {p : Prop} (h : p := by first | omega | exact Nat.le_refl _) : p := h
theorem y67_ {p : Prop} (h : p := by (with_reducible repeat (first | apply Kd.R_alloc | apply Kd.R_drewN | apply Kd.R_drew)); exact (Q_HO269 h0_ h1_)) : p := h
theorem y68_ {p : Prop} (h : p := by (with_reducible repeat (first | apply Kd.R_alloc | apply Kd.R_drewN | apply Kd.R_drew)); exact (Q_HO263 h0_ h1_)) : p := h
theorem y69_ {p : Prop} (h : p := by (with_reducible repeat (first | apply Kd.R_alloc | apply Kd.R_drewN | apply Kd.R_drew)); exact (Q_HO260 h0_ h1_)) : p := h
theorem y70_ {p : Prop} (h : p := by (with_reducible repeat (first | apply Kd.R_alloc | apply Kd.R_drewN | apply Kd.R_drew)); exact (Q_HO254 h0_ h1_)) : p := h
theorem y71_ {p : Prop} (h : p := by rw [hg]; exact Nat.ne_of_lt (blk_lt (g := gb277) (o := .cells #[.int .i64 a0_0, .string a0_1] 23 (0, 0)) y17_)) : p := h
theorem y72_ {p : Prop} (h : p := by rw [hg]; exact Nat.ne_of_lt (blk_lt (g := gb176) (o := .cells #[.string (⟨#[]⟩ : ByteArray), .int .i64 0, .int .i64 0, .int .u8 0, .int .u64 0] 26 (0, 0)) y21_)) : p := h
theorem y73_ {p : Prop} (h : p := by rw [hg]; exact Nat.ne_of_gt (blk_lt (g := gb277) (o := .cells #[.int .i64 a0_0, .string a0_1] 23 (0, 0)) y17_)) : p := h
theorem y74_ {p : Prop} (h : p := by rw [hg]; exact Nat.ne_of_gt (blk_lt (g := gb176) (o := .cells #[.string (⟨#[]⟩ : ByteArray), .int .i64 0, .int .i64 0, .int .u8 0, .int .u64 0] 26 (0, 0)) y21_)) : p := h
theorem y75_ {p : Prop} (h : p := by repeat (first | (with_reducible first | exact HB.out | apply below_alloc | apply pw_below_drewN | apply below_drew1 | refine below_set ?_ GE292.out) | exact HB.out)) : p := h
theorem y76_ {p : Prop} (h : p := by repeat (first | (with_reducible first | exact HB.out | apply below_alloc | apply pw_below_drewN | apply below_drew1 | refine below_set ?_ GE188.out) | exact HB.out)) : p := h
theorem y77_ {p : Prop} (h : p := by repeat (first | (with_reducible first | exact HB.out | apply below_alloc | apply pw_below_drewN | apply below_drew1 | refine below_set ?_ GE154.out) | exact HB.out)) : p := h
theorem y78_ {p : Prop} (h : p := by (with_reducible repeat (first | apply Kd.R_alloc | apply Kd.R_drewN | apply Kd.R_drew)); exact HO260.out) : p := h
theorem y79_ {p : Prop} (h : p := by (with_reducible repeat (first | apply Kd.R_alloc | apply Kd.R_drewN | apply Kd.R_drew)); exact HO194.out) : p := h
theorem y80_ {p : Prop} (h : p := by (with_reducible repeat (first | refine blk_drewN ?_ _ | refine blk_drew ?_ | refine blk_alloc ?_ _)); refine blk_far ?_ NB154_155.out _; (with_reducible repeat (first | refine blk_drewN ?_ _ | refine blk_drew ?_ | refine blk_alloc ?_ _)); exact BK154.out) : p := h
theorem y81_ {p : Prop} (h : p := by rw [hg]; exact (below_size y22_)) : p := h
theorem y82_ {p : Prop} (h : p := by (with_reducible repeat (first | apply Kd.V_alloc | apply Kd.V_drewN | apply Kd.V_drew)); exact HO284.out) : p := h
theorem y83_ {p : Prop} (h : p := by (with_reducible repeat (first | apply Kd.V_alloc | apply Kd.V_drewN | apply Kd.V_drew)); exact HO257.out) : p := h
theorem y84_ {p : Prop} (h : p := by (with_reducible repeat (first | apply Kd.R_alloc | apply Kd.R_drewN | apply Kd.R_drew)); exact HO130.out) : p := h
end Go.Proofs.YtkkomfomjpcbfaaDoor
end
section
namespace Go.Proofs.YtkkomfomjpcbfaaDoor.PHL
open Go.RowKit Go.Proofs.YtkkomfomjpcbfaaDoorW.PrintWords Go.Proofs.YtkkomfomjpcbfaaDoorW.PrintLast Go.Proofs.YtkkomfomjpcbfaaDoorW.PrintMore
attribute [local go_sem] max2_int min2_int max_two min_two max_three min_three max_four min_four
set_option linter.unusedVariables false
set_option linter.unusedSimpArgs false
def errW : Option Int → Value
 | none => .nilIface
 | some c => .iface 0 (.int .i64 c)
theorem errW_none : errW none = .nilIface := rfl
theorem errW_some (c : Int) : errW (some c) = .iface 0 (.int .i64 c) := rfl
end Go.Proofs.YtkkomfomjpcbfaaDoor.PHL
end
section
namespace Go.Proofs.YtkkomfomjpcbfaaDoor.PHL
open Go.RowKit Go.Proofs.YtkkomfomjpcbfaaDoorW.PrintWords Go.Proofs.YtkkomfomjpcbfaaDoorW.PrintLast Go.Proofs.YtkkomfomjpcbfaaDoorW.PrintMore
attribute [local go_sem] max2_int min2_int max_two min_two max_three min_three max_four min_four
set_option linter.unusedVariables false
set_option linter.unusedSimpArgs false
mutual
def hash_six.j0 : Nat → Int → Bool → Option (Int × Bool)
 | 0, _, _ => none
 | k + 1, x0, x4 => if x4 = true then (some (IntKind.u64.wrap (wrap32 (x0 - 65)), true)) else (if x0 ≥ 97 then (hash_six.j1 k x0 (decide (x0 ≤ 122))) else (hash_six.j1 k x0 false))
def hash_six.j1 : Nat → Int → Bool → Option (Int × Bool)
 | 0, _, _ => none
 | k + 1, x0, x14 => if x14 = true then (some (IntKind.u64.wrap ((IntKind.u64.wrap (wrap32 (x0 - 97))) + 26), true)) else (if x0 ≥ 48 then (hash_six.j2 k x0 (decide (x0 ≤ 57))) else (hash_six.j2 k x0 false))
def hash_six.j2 : Nat → Int → Bool → Option (Int × Bool)
 | 0, _, _ => none
 | k + 1, x0, x25 => if x25 = true then (some (IntKind.u64.wrap ((IntKind.u64.wrap (wrap32 (x0 - 48))) + 52), true)) else (if x0 = 45 then (some (62, true)) else (if x0 = 95 then (some (63, true)) else (some (0, false))))
end
def hash_six.f (k : Nat) (a0 : Int) : Option (Int × Bool) := if a0 ≥ 65 then (hash_six.j0 k a0 (decide (a0 ≤ 90))) else (hash_six.j0 k a0 false)
set_option maxHeartbeats 8000000 in
set_option maxRecDepth 100000 in
theorem hash_six.calls (k : Nat) (a0 : Int) (r1 : Int) (r2 : Bool) (w : World) (h : hash_six.f k a0 = some (r1, r2)) :
  Calls Tryd.prog 56 #[.int .i32 a0] w fun e w' => e = .returned (.tuple #[.int .u64 r1, .bool r2]) ∧ Drawn0 w w' := by
 have H : (if a0 ≥ 65 then (hash_six.j0 k a0 (decide (a0 ≤ 90))) else (hash_six.j0 k a0 false)) = some (r1, r2) := h
 clear h
 have HC2 := Aside0.mk H
 clear H
 go_enter Tryd.func56, Tryd.ntmps56
 go_upto_region 1 with (fail)
 go_cut [4] (fun v4 wc => ∃ (kq : Nat) (x4_1 : Bool), v4 = .bool x4_1 ∧ Aside0 (hash_six.j0 kq a0 x4_1 = some (r1, r2)) ∧ Aside0 (kq ≤ k) ∧ Drawn0 w wc)
 case first =>
  have H := HC2.out
  clear HC2
  by_cases c3 : a0 ≥ 65
  ·rw [if_pos c3] at H
   have c3b0 : decide (65 ≤ a0) = true := decide_eq_true c3
   clear c3
   (first | rw [c3b0] | (simp only [i64_w, i32_w]; rw [c3b0]) | skip)
   have H' := Aside0.mk H
   clear H
   go_wp2
   go_meet
   case rel => exact ⟨_, (decide (a0 ≤ 90)), y59_, H', ⟨y66_⟩, y10_⟩
  ·rw [if_neg c3] at H
   have c3b0 : decide (65 ≤ a0) = false := decide_eq_false c3
   clear c3
   (first | rw [c3b0] | (simp only [i64_w, i32_w]; rw [c3b0]) | skip)
   have H' := Aside0.mk H
   clear H
   go_wp2
   go_meet
   case rel => exact ⟨_, (false), y59_, H', ⟨y66_⟩, y10_⟩
 case rest =>
  clear HC2
  try clear p2
  try clear c3
  try clear c3b0
  obtain ⟨kq, x4_1, rfl, HA, HJ1, ⟨mc1, rfl⟩⟩ := hcut
  cases kq with
  | zero => exact absurd HA.out (by simp [hash_six.j0])
  | succ kj1 =>
   have H := HA.out
   clear HA
   simp only [hash_six.j0] at H
   by_cases c4 : x4_1 = true
   ·subst c4
    have H1 : (some (IntKind.u64.wrap (wrap32 (a0 - 65)), true)) = some (r1, r2) := by rw [if_pos rfl] at H; exact H
    clear H
    have H := H1
    clear H1
    simp only [Option.some.injEq, Prod.mk.injEq] at H
    obtain ⟨rfl, rfl⟩ := H
    go_wp2
    go_ret2
    exact ⟨y19_, y10_⟩
   ·replace c4 := Bool.eq_false_iff.mpr c4
    subst c4
    have H1 : (if a0 ≥ 97 then (hash_six.j1 kj1 a0 (decide (a0 ≤ 122))) else (hash_six.j1 kj1 a0 false)) = some (r1, r2) := by rw [if_neg (show ¬ (false = true) by decide)] at H; exact H
    clear H
    have H := H1
    clear H1
    have HC5 := Aside0.mk H
    clear H
    go_upto_region 3 with (fail)
    go_cut [14] (fun v14 wc => ∃ (kq : Nat) (x14_4 : Bool), v14 = .bool x14_4 ∧ Aside0 (hash_six.j1 kq a0 x14_4 = some (r1, r2)) ∧ Aside0 (kq ≤ kj1) ∧ Drawn0 w wc)
    case first =>
     have H := HC5.out
     clear HC5
     by_cases c6 : a0 ≥ 97
     ·rw [if_pos c6] at H
      have c6b0 : decide (97 ≤ a0) = true := decide_eq_true c6
      clear c6
      (first | rw [c6b0] | (simp only [i64_w, i32_w]; rw [c6b0]) | skip)
      have H' := Aside0.mk H
      clear H
      go_wp2
      go_meet
      case rel => exact ⟨_, (decide (a0 ≤ 122)), y59_, H', ⟨by have := HJ1.out; first | omega | exact Nat.le_refl _⟩, y10_⟩
     ·rw [if_neg c6] at H
      have c6b0 : decide (97 ≤ a0) = false := decide_eq_false c6
      clear c6
      (first | rw [c6b0] | (simp only [i64_w, i32_w]; rw [c6b0]) | skip)
      have H' := Aside0.mk H
      clear H
      go_wp2
      go_meet
      case rel => exact ⟨_, (false), y59_, H', ⟨by have := HJ1.out; first | omega | exact Nat.le_refl _⟩, y10_⟩
    case rest =>
     clear HC5
     try clear c1
     try clear p2
     try clear c3
     try clear c3b0
     try clear p3
     try clear c4
     try clear c5
     try clear c6
     try clear c6b0
     try clear p2
     obtain ⟨kq, x14_4, rfl, HA, HJ4, ⟨mc4, rfl⟩⟩ := hcut
     cases kq with
     | zero => exact absurd HA.out (by simp [hash_six.j1])
     | succ kj4 =>
      have H := HA.out
      clear HA
      simp only [hash_six.j1] at H
      by_cases c7 : x14_4 = true
      ·subst c7
       have H1 : (some (IntKind.u64.wrap ((IntKind.u64.wrap (wrap32 (a0 - 97))) + 26), true)) = some (r1, r2) := by rw [if_pos rfl] at H; exact H
       clear H
       have H := H1
       clear H1
       simp only [Option.some.injEq, Prod.mk.injEq] at H
       obtain ⟨rfl, rfl⟩ := H
       go_wp2
       go_ret2
       exact ⟨y19_, y10_⟩
      ·replace c7 := Bool.eq_false_iff.mpr c7
       subst c7
       have H1 : (if a0 ≥ 48 then (hash_six.j2 kj4 a0 (decide (a0 ≤ 57))) else (hash_six.j2 kj4 a0 false)) = some (r1, r2) := by rw [if_neg (show ¬ (false = true) by decide)] at H; exact H
       clear H
       have H := H1
       clear H1
       have HC8 := Aside0.mk H
       clear H
       go_upto_region 5 with (fail)
       go_cut [25] (fun v25 wc => ∃ (kq : Nat) (x25_7 : Bool), v25 = .bool x25_7 ∧ Aside0 (hash_six.j2 kq a0 x25_7 = some (r1, r2)) ∧ Aside0 (kq ≤ kj4) ∧ Drawn0 w wc)
       case first =>
        have H := HC8.out
        clear HC8
        by_cases c9 : a0 ≥ 48
        ·rw [if_pos c9] at H
         have c9b0 : decide (48 ≤ a0) = true := decide_eq_true c9
         clear c9
         (first | rw [c9b0] | (simp only [i64_w, i32_w]; rw [c9b0]) | skip)
         have H' := Aside0.mk H
         clear H
         go_wp2
         go_meet
         case rel => exact ⟨_, (decide (a0 ≤ 57)), y59_, H', ⟨by have := HJ1.out; have := HJ4.out; first | omega | exact Nat.le_refl _⟩, y10_⟩
        ·rw [if_neg c9] at H
         have c9b0 : decide (48 ≤ a0) = false := decide_eq_false c9
         clear c9
         (first | rw [c9b0] | (simp only [i64_w, i32_w]; rw [c9b0]) | skip)
         have H' := Aside0.mk H
         clear H
         go_wp2
         go_meet
         case rel => exact ⟨_, (false), y59_, H', ⟨by have := HJ1.out; have := HJ4.out; first | omega | exact Nat.le_refl _⟩, y10_⟩
       case rest =>
        clear HC8
        try clear c1
        try clear p2
        try clear c3
        try clear c3b0
        try clear p3
        try clear c4
        try clear c5
        try clear c6
        try clear c6b0
        try clear c7
        try clear c9
        try clear c9b0
        try clear p2
        try clear p3
        obtain ⟨kq, x25_7, rfl, HA, HJ7, ⟨mc7, rfl⟩⟩ := hcut
        cases kq with
        | zero => exact absurd HA.out (by simp [hash_six.j2])
        | succ kj7 =>
         have H := HA.out
         clear HA
         simp only [hash_six.j2] at H
         by_cases c10 : x25_7 = true
         ·subst c10
          have H1 : (some (IntKind.u64.wrap ((IntKind.u64.wrap (wrap32 (a0 - 48))) + 52), true)) = some (r1, r2) := by rw [if_pos rfl] at H; exact H
          clear H
          have H := H1
          clear H1
          simp only [Option.some.injEq, Prod.mk.injEq] at H
          obtain ⟨rfl, rfl⟩ := H
          go_wp2
          go_ret2
          exact ⟨y19_, y10_⟩
         ·replace c10 := Bool.eq_false_iff.mpr c10
          subst c10
          have H1 : (if a0 = 45 then (some (62, true)) else (if a0 = 95 then (some (63, true)) else (some (0, false)))) = some (r1, r2) := by rw [if_neg (show ¬ (false = true) by decide)] at H; exact H
          clear H
          have H := H1
          clear H1
          by_cases c11 : a0 = 45
          ·rw [if_pos c11] at H
           have c11b0 : (a0 == 45) = true := beq_iff_eq.mpr c11
           have c11b1 : (a0 != 45) = false := bne_eq_false_iff_eq.mpr c11
           clear c11
           simp only [Option.some.injEq, Prod.mk.injEq] at H
           obtain ⟨rfl, rfl⟩ := H
           go_wp2
           go_ret2
           exact ⟨y19_, y10_⟩
          ·rw [if_neg c11] at H
           have c11b0 : (a0 == 45) = false := beq_eq_false_iff_ne.mpr c11
           have c11b1 : (a0 != 45) = true := bne_iff_ne.mpr c11
           by_cases c12 : a0 = 95
           ·rw [if_pos c12] at H
            have c12b0 : (a0 == 95) = true := beq_iff_eq.mpr c12
            have c12b1 : (a0 != 95) = false := bne_eq_false_iff_eq.mpr c12
            clear c12
            simp only [Option.some.injEq, Prod.mk.injEq] at H
            obtain ⟨rfl, rfl⟩ := H
            go_wp2
            go_ret2
            exact ⟨y19_, y10_⟩
           ·rw [if_neg c12] at H
            have c12b0 : (a0 == 95) = false := beq_eq_false_iff_ne.mpr c12
            have c12b1 : (a0 != 95) = true := bne_iff_ne.mpr c12
            simp only [Option.some.injEq, Prod.mk.injEq] at H
            obtain ⟨rfl, rfl⟩ := H
            go_wp2
            go_ret2
            exact ⟨y19_, y10_⟩
end Go.Proofs.YtkkomfomjpcbfaaDoor.PHL
end
section
namespace Go.Proofs.YtkkomfomjpcbfaaDoor
open Go Go.RowKit Go.Lib Go.Proofs.YtkkomfomjpcbfaaDoorW.PrintWords Go.Proofs.YtkkomfomjpcbfaaDoorW.PrintMore Go.Proofs.YtkkomfomjpcbfaaDoorW.PrintLast Bq
set_option linter.unusedVariables false
set_option linter.unusedSimpArgs false
attribute [local go_sem ↓] Go.wp_at_zero Go.wp_at_succ
def sixV (c : Int) : Option Nat := if 65 ≤ c ∧ c ≤ 90 then some (c - 65).toNat else if 97 ≤ c ∧ c ≤ 122 then some (c - 71).toNat else if 48 ≤ c ∧ c ≤ 57 then some (c + 4).toNat else if c = 45 then some 62 else if c = 95 then some 63 else none
theorem sixV_lt {c : Int} {v : Nat} (h : sixV c = some v) : v < 64 ∧ 0 ≤ c ∧ c < 128 := by
  unfold sixV at h
  repeat' split at h
  all_goals simp only [Option.some.injEq, reduceCtorEq] at h
  all_goals omega
theorem sixV_high {c : Int} (h : 128 ≤ c) : sixV c = none := by
  unfold sixV
  rw [if_neg (by omega), if_neg (by omega), if_neg (by omega), if_neg (by omega), if_neg (by omega)]
theorem w_small (x : Int) (h0 : 0 ≤ x) (h1 : x < 100) : IntKind.u64.wrap (wrap32 x) = x := by
  rw [← i32_w, IntKind.wrap_i32, IntKind.wrap_u64]
  omega
theorem w_small' (x : Int) (h0 : 0 ≤ x) (h1 : x < 200) : IntKind.u64.wrap x = x := by
  rw [IntKind.wrap_u64]
  omega
theorem below_dr {w w' : World} (h : Drawn0 w w') : Below w.heap.size w w' := by
  obtain ⟨n, rfl⟩ := h
  exact pw_below_drewN (Below.refl _ _) n
theorem dr_trans {B : Nat} {w w1 w' : World} (h : Below B w w1) (hD : Drawn0 w1 w') : Below B w w' := by
  obtain ⟨n, rfl⟩ := hD
  exact pw_below_drewN h n
theorem six_f (c : Int) : PHL.hash_six.f 3 c = some ((((sixV c).getD 0 : Nat) : Int), (sixV c).isSome) := by
  simp only [PHL.hash_six.f, PHL.hash_six.j0, PHL.hash_six.j1, PHL.hash_six.j2, decide_eq_true_eq, Bool.false_eq_true, if_false, reduceIte]
  unfold sixV
  (repeat' split) <;> first
    | (exfalso; omega)
    | rfl
    | (simp only [Option.getD_some, Option.isSome_some, Option.some.injEq, Prod.mk.injEq, and_true]; rw [w_small _ (by omega) (by omega)]; omega)
    | (simp only [Option.getD_some, Option.isSome_some, Option.some.injEq, Prod.mk.injEq, and_true]; rw [w_small _ (by omega) (by omega), w_small' _ (by omega) (by omega)]; omega)
theorem six_calls (c : Int) (w : World) : Calls Tryd.prog 56 #[.int .i32 c] w fun e w' => e = .returned (.tuple #[.int .u64 (((sixV c).getD 0 : Nat) : Int), .bool (sixV c).isSome]) ∧ Drawn0 w w' :=
  PHL.hash_six.calls 3 c _ _ w (six_f c)
def unL : List UInt8 → Nat → Nat → List Int → List Int × Int
  | [], X, n, out => if n = 6 ∨ X % 2 ^ n ≠ 0 then ([], 8) else (out, 0)
  | c :: l, X, n, out => match sixV (c.toNat : Int) with
    | none => ([], 8)
    | some v => if 8 ≤ n + 6 then unL l ((X * 64 + v) % 256) (n - 2) (out ++ [(((X * 64 + v) / 2 ^ (n - 2) % 256 : Nat) : Int)]) else unL l ((X * 64 + v) % 256) (n + 6) out
theorem hu_byte (s : ByteArray) (i : Nat) (h : i < s.size) : s[i] = s.data.toList.getD i 0 := by
  rw [List.getD_eq_getElem?_getD, List.getElem?_eq_getElem (by simpa using h)]
  simp
  rfl
theorem hu_drop (s : ByteArray) (i : Nat) (h : i < s.size) : s.data.toList.drop i = s[i] :: s.data.toList.drop (i + 1) := by
  have hl : i < s.data.toList.length := by simpa using h
  rw [List.drop_eq_getElem_cons hl]
  congr 1
theorem or64 (a v : Nat) (hv : v < 64) (ha : a < 72057594037927936) : bits .or .u64 ((a * 64 : Nat) : Int) (v : Int) = ((a * 64 + v : Nat) : Int) := by
  rw [(bits_nat .u64 64 (by decide) (fun m a b => by rw [IntKind.wrap_u64]; omega) (a * 64) v (by omega) (by omega)).2]
  congr 1
  have h3 := Nat.two_pow_add_eq_or_of_lt (i := 6) hv a
  rw [Nat.mul_comm a 64]
  exact h3.symm
theorem and_mask (a n : Nat) (ha : a < 18446744073709551616) (hn : n ≤ 8) : bits .and .u64 (a : Int) ((2 ^ n - 1 : Nat) : Int) = ((a % 2 ^ n : Nat) : Int) := by
  have hp : 2 ^ n ≤ 2 ^ 8 := Nat.pow_le_pow_right (by decide) hn
  rw [(bits_nat .u64 64 (by decide) (fun m a b => by rw [IntKind.wrap_u64]; omega) a (2 ^ n - 1) ha (by omega)).1]
  congr 1
  exact Nat.and_two_pow_sub_one_eq_mod a n
theorem R_iterAt {w : World} {base k pos p0 : Nat} {s : ByteArray} {v : Value} {xs : List Int} (h : (Kd.int .u8).R 5 w base (fun j => j ≠ k) v xs) : (Kd.int .u8).R 5 (w.iterAt k s pos) base (fun j => j ≠ k) v xs :=
  Kd.R_step h (fun j hj _ => iterAt_other w k j s pos hj)
set_option maxRecDepth 20000 in
set_option maxHeartbeats 4000000 in
theorem unarmor_calls (w : World) (s : ByteArray) (hs : s.size ≤ 1000000) (r1 : List Int) (r2 : Int) (h : unL s.data.toList 0 0 [] = (r1, r2)) :
    Calls Tryd.prog 33 #[.string s] w fun e w' => ∃ v : Value, e = .returned (.tuple #[v, .int .i64 r2]) ∧ (Kd.int .u8).R 5 w' w.heap.size (fun _ => True) v r1 ∧ Below w.heap.size w w' := by
  have H0 := Lib.hid h
  clear h
  obtain ⟨m0, hm0⟩ : ∃ m0 : Nat, (3 * (s.size : Int)) / 4 = m0 := ⟨((3 * (s.size : Int)) / 4).toNat, by omega⟩
  have hm0b : m0 ≤ 10000000 := by omega
  have HM0 := Lib.hid hm0
  clear hm0
  have q0 : IntKind.i64.wrap (3 * (s.size : Int)) = 3 * (s.size : Int) := IntWalk.i64_in _ (by omega)
  go_enter Tryd.func33, Tryd.ntmps33
  go_upto_region 3 with (show wpList _ _ _ ({ dst := _, op := .makeSlice _ _ _, type := _, pos := _, after := _, guard := _ } :: _) _ _; refine wl_make0 w.heap.size m0 (fun _ => True) rfl _ _ rfl rfl (congrArg (Value.int .i64) HM0.out) (Nat.le_refl _) trivial (by omega) ?_; intro v1 w1 hR1 hB1; have HR1 := Lib.hid hR1; have HB1 := Lib.hid hB1; clear hR1 hB1)
  obtain ⟨it, hit⟩ : ∃ it, it = w1.heap.size := ⟨_, rfl⟩
  obtain ⟨W2, hW2⟩ : ∃ W2, W2 = w1.iter s 0 := ⟨_, rfl⟩
  have HB2 : Hid (Below w.heap.size w W2) := Lib.hid (by rw [hW2]; exact HB1.out.alloc HB1.out.size _)
  have HI2 : Hid (W2.heap[it]? = some (.stringIter s 0)) := Lib.hid (by rw [hW2, hit]; exact World.iter_heap _ _ _)
  have HR2 : Hid ((Kd.int .u8).R 5 W2 w.heap.size (fun j => j ≠ it) v1 []) := Lib.hid (by
    have h1 := Kd.R_mono (Kd.R_bound HR1.out) (ok' := fun j => j ≠ it) (fun j hj => by have := hj.2.2.1; omega)
    rw [hW2]
    exact Kd.R_below h1 ((Below.refl _ _).alloc (Nat.le_refl _) _))
  have HIW : Hid (w.heap.size ≤ it) := Lib.hid (by rw [hit]; exact HB1.out.size)
  go_upto_region 4 with fail
  rw [← hW2, ← hit]
  clear hW2 hit HB1 HR1
  go_loopg [4, 5, 6] s.size (fun kq s4 s5 s6 wr => ∃ (pos X n : Nat) (out : List Int), pos + kq = s.size ∧ s5 = .int .u64 (X : Int) ∧ s6 = .int .i64 (n : Int) ∧ X < 256 ∧ n < 8 ∧ out.length ≤ pos ∧ Hid (unL (s.data.toList.drop pos) X n out = (r1, r2)) ∧ Hid ((Kd.int .u8).R 5 wr w.heap.size (fun j => j ≠ it) s4 out) ∧ Hid (wr.heap[it]? = some (.stringIter s pos)) ∧ Hid (Below w.heap.size w wr))
  case atStart => exact ⟨0, 0, 0, [], by omega, rfl, rfl, by decide, by decide, Nat.le_refl _, H0.out, HR2.out, HI2.out, HB2.out⟩
  case round =>
    obtain ⟨pos, X, n, out, hk, rfl, rfl, hX, hn, hol, HU, HR, HI, HB⟩ := hrel
    obtain ⟨A4, c4, hs4⟩ := Kd.R_slice HR.out
    subst hs4
    by_cases hlt : pos < s.size
    · obtain ⟨c, hc⟩ : ∃ c : Int, c = ((Utf8.decode s pos).1 : Int) := ⟨_, rfl⟩
      obtain ⟨st, hst⟩ : ∃ st, st = (Utf8.decode s pos).2 := ⟨_, rfl⟩
      have hnx := fun ty => run_next_any_at (P := Tryd.prog) wr it s pos ty HI.out hlt
      simp only [← hc, ← hst] at hnx
      have hsix : sixV c = sixV ((s[pos]'hlt).toNat : Int) ∧ ((s[pos]'hlt).toNat < 128 → st = 1) := by
        by_cases ha : (s[pos]'hlt).toNat < 128
        · rw [hc, hst, decode_ascii s pos hlt ha]
          exact ⟨rfl, fun _ => rfl⟩
        · have hd := (decode_high s pos hlt (by omega)).1
          exact ⟨by rw [sixV_high (by omega), sixV_high (by omega)], fun h => absurd h ha⟩
      have hd := hu_drop s pos hlt
      have HU2 : Hid (unL ((s[pos]'hlt) :: s.data.toList.drop (pos + 1)) X n out = (r1, r2)) := Lib.hid (by rw [← hd]; exact HU.out)
      have HSX := Lib.hid hsix
      have HLT := Lib.hid hlt
      clear hc hst hd hsix HU
      cases hv : sixV c with
      | none =>
        have hres : r1 = [] ∧ r2 = 8 := by
          have h := HU2.out
          unfold unL at h
          rw [← HSX.out.1, hv] at h
          exact ⟨(congrArg Prod.fst h).symm, (congrArg Prod.snd h).symm⟩
        obtain ⟨rfl, rfl⟩ := hres
        have h6 := fun W => six_calls c W
        rw [hv] at h6
        clear hv
        go_wp2_with (go_at_call 56; refine (h6 _).mono ?_; rintro e w' ⟨rfl, hD⟩; have HB5 : Hid (Below w.heap.size w w') := Lib.hid (dr_trans (below_iterAt HB.out HIW.out s _) hD); clear hD)
        go_ret2
        exact ⟨.slice none 0 0, rfl, Kd.R_nil _ _ _ _ _, HB5.out⟩
      | some v =>
        obtain ⟨hv64, hc0, hc1⟩ := sixV_lt hv
        have hst1 : st = 1 := HSX.out.2 (by
          by_cases ha : (s[pos]'hlt).toNat < 128
          · exact ha
          · exfalso
            have h1 := HSX.out.1
            rw [hv, sixV_high (c := ((s[pos]'hlt).toNat : Int)) (by omega)] at h1
            cases h1)
        subst hst1
        have HU3 : Hid ((if 8 ≤ n + 6 then unL (s.data.toList.drop (pos + 1)) ((X * 64 + v) % 256) (n - 2) (out ++ [(((X * 64 + v) / 2 ^ (n - 2) % 256 : Nat) : Int)]) else unL (s.data.toList.drop (pos + 1)) ((X * 64 + v) % 256) (n + 6) out) = (r1, r2)) := Lib.hid (by
          have h := HU2.out
          unfold unL at h
          rw [← HSX.out.1, hv] at h
          exact h)
        have h6 := fun W => six_calls c W
        rw [hv] at h6
        simp only [Option.getD_some, Option.isSome_some] at h6
        have hor := or64 X v hv64 (by omega)
        rw [show ((X * 64 : Nat) : Int) = (X : Int) * 64 by omega] at hor
        obtain ⟨Y, hY⟩ : ∃ Y, Y = X * 64 + v := ⟨_, rfl⟩
        rw [← hY] at hor
        have hYl : Y < 16384 := by omega
        have HY := Lib.hid hY
        have e1 : IntKind.u64.wrap ((X : Int) * 64) = (X : Int) * 64 := by rw [IntKind.wrap_u64]; omega
        have hand := and_mask Y 8 (by omega) (Nat.le_refl _)
        rw [show ((2 ^ 8 - 1 : Nat) : Int) = 255 from rfl, show (2 : Nat) ^ 8 = 256 from rfl] at hand
        obtain ⟨Z, hZ⟩ : ∃ Z, Z = Y % 256 := ⟨_, rfl⟩
        rw [← hZ] at hand
        have HZ := Lib.hid hZ
        have hZl : Z < 256 := by omega
        have HSV := Lib.hid hv
        clear hY hZ hv hc0 hc1 HU2 HSX hlt
        obtain ⟨W9, hW9⟩ : ∃ W9, W9 = wr.iterAt it s (pos + 1) := ⟨_, rfl⟩
        have HR9 : Hid ((Kd.int .u8).R 5 W9 w.heap.size (fun j => j ≠ it) (.slice A4 out.length c4) out) := Lib.hid (by rw [hW9]; exact R_iterAt (p0 := 0) HR.out)
        have HI9 : Hid (W9.heap[it]? = some (.stringIter s (pos + 1))) := Lib.hid (by rw [hW9]; exact iterAt_heap wr it s pos _ HI.out)
        have HB9 : Hid (Below w.heap.size w W9) := Lib.hid (by rw [hW9]; exact below_iterAt HB.out HIW.out s _)
        rw [← hW9] at hnx
        clear hW9
        by_cases h8 : 8 ≤ n + 6
        · obtain ⟨m, hm⟩ : ∃ m, n = m + 2 := ⟨n - 2, by omega⟩
          subst hm
          have HU4 : Hid (unL (s.data.toList.drop (pos + 1)) Z m (out ++ [((Y / 2 ^ m % 256 : Nat) : Int)]) = (r1, r2)) := Lib.hid (by
            have h := HU3.out
            rw [if_pos h8, ← HY.out, ← HZ.out] at h
            exact h)
          have n1 : IntKind.i64.wrap (((m + 2 : Nat) : Int) + 6) = ((m + 8 : Nat) : Int) := by rw [IntWalk.i64_in _ (by omega)]; omega
          have n2 : (8 : Int) ≤ ((m + 8 : Nat) : Int) := by omega
          have n3 : IntKind.i64.wrap (((m + 8 : Nat) : Int) - 8) = (m : Int) := by rw [IntWalk.i64_in _ (by omega)]; omega
          have n4 : IntKind.u64.wrap (m : Int) = (m : Int) := by rw [IntKind.wrap_u64]; omega
          have n5 : m < 64 := by omega
          obtain ⟨B, hB⟩ : ∃ B : Nat, B = Y / 2 ^ m % 256 := ⟨_, rfl⟩
          rw [← hB] at HU4
          have n6 : (Y : Int) / 2 ^ m % 256 = (B : Int) := by rw [hB]; simp
          have n7 : IntKind.u8.wrap ((Y : Int) / 2 ^ m) = (B : Int) := by rw [IntKind.wrap_u8]; exact n6
          clear hB
          go_upto_region 14 with (first
            | (go_at_call 56; refine (h6 _).mono ?_; rintro e w' ⟨rfl, hD⟩; have HB5 : Hid (Below w.heap.size w w') := Lib.hid (dr_trans HB9.out hD); have HR5 := Lib.hid (Kd.R_below HR9.out (below_dr hD)); have HI5 : Hid (w'.heap[it]? = some (.stringIter s (pos + 1))) := Lib.hid (((below_dr hD : Below W9.heap.size W9 w').block it (blk_lt HI9.out)).trans HI9.out); clear hD)
            | (at_builtin; refine Kd.R_append (Kd.int .u8) (w0 := w) w.heap.size rfl (.tmp 38) (.tmp 44) 45 5 (.int .u8 0) 1 rfl Tryd.underlying45 info_u8' rfl (by decide) (by decide) _ out (B : Int) [.int .u8 (B : Int)] (fun j => j ≠ it) (fun _ => False) rfl rfl rfl (fun _ h => h.elim) (fun k hk => by have := blk_lt HI5.out; omega) HR5.out HB5.out (below_size' HB5.out) (by omega) ?_; intro v7 w7 hR7 hB7 hg7 _; have HR7 := Lib.hid hR7; have HB7 := Lib.hid hB7; have HI7 : Hid (w7.heap[it]? = some (.stringIter s (pos + 1))) := Lib.hid ((hg7.block it (blk_lt HI5.out) (fun e => (HR5.out).1 it e.symm rfl)).trans HI5.out); clear hR7 hB7 hg7))
          go_wp2_with fail
          go_roundg (gk - 1)
          case measure => have := HLT.out; omega
          case rel => exact ⟨pos + 1, Z, m, out ++ [(B : Int)], by have := HLT.out; omega, rfl, (by first | rfl | exact congrArg (Value.int .i64) (by omega)), hZl, by omega, by rw [List.length_append, List.length_singleton]; omega, HU4.out, HR7.out, HI7.out, HB7.out⟩
        · have HU4 : Hid (unL (s.data.toList.drop (pos + 1)) Z (n + 6) out = (r1, r2)) := Lib.hid (by
            have h := HU3.out
            rw [if_neg h8, ← HY.out, ← HZ.out] at h
            exact h)
          have n1 : IntKind.i64.wrap ((n : Int) + 6) = ((n + 6 : Nat) : Int) := by rw [IntWalk.i64_in _ (by omega)]; omega
          have n2 : ¬ (8 : Int) ≤ ((n + 6 : Nat) : Int) := by omega
          go_wp2_with (go_at_call 56; refine (h6 _).mono ?_; rintro e w' ⟨rfl, hD⟩; have HB5 : Hid (Below w.heap.size w w') := Lib.hid (dr_trans HB9.out hD); have HR5 := Lib.hid (Kd.R_below HR9.out (below_dr hD)); have HI5 : Hid (w'.heap[it]? = some (.stringIter s (pos + 1))) := Lib.hid (((below_dr hD : Below W9.heap.size W9 w').block it (blk_lt HI9.out)).trans HI9.out); clear hD)
          go_roundg (gk - 1)
          case measure => have := HLT.out; omega
          case rel => exact ⟨pos + 1, Z, n + 6, out, by have := HLT.out; omega, rfl, (by first | rfl | exact congrArg (Value.int .i64) (by omega)), hZl, by omega, by omega, HU4.out, HR5.out, HI5.out, HB5.out⟩
    · have hnx := fun ty => run_next_end_at (P := Tryd.prog) wr it s pos ty HI.out hlt
      have hps : pos = s.size := by omega
      have hres : (if n = 6 ∨ X % 2 ^ n ≠ 0 then (([] : List Int), (8 : Int)) else (out, 0)) = (r1, r2) := by
        have h := HU.out
        rw [List.drop_of_length_le (by rw [hps]; simp)] at h
        exact h
      have HRES := Lib.hid hres
      clear hres hps HU
      by_cases h6 : n = 6
      · subst h6
        have hr := HRES.out
        rw [if_pos (.inl rfl)] at hr
        obtain ⟨rfl, rfl⟩ : ([] : List Int) = r1 ∧ (8 : Int) = r2 := ⟨congrArg Prod.fst hr, congrArg Prod.snd hr⟩
        clear hr
        go_wp2_with fail
        go_ret2
        exact ⟨.slice none 0 0, rfl, Kd.R_nil _ _ _ _ _, HB.out⟩
      · have hne : (n : Int) ≠ 6 := by omega
        have n4 : IntKind.u64.wrap (n : Int) = (n : Int) := by rw [IntKind.wrap_u64]; omega
        have n5 : n < 64 := by omega
        have hpw : 2 ^ n ≤ 128 := by
          have : ∀ j : Fin 8, 2 ^ j.val ≤ 128 := by decide
          exact this ⟨n, hn⟩
        have hp1 : 0 < 2 ^ n := Nat.pow_pos (by decide)
        have hand := and_mask X n (by omega) (by omega)
        obtain ⟨P, hP⟩ : ∃ P, P = 2 ^ n := ⟨_, rfl⟩
        rw [← hP] at hand hpw hp1
        have n6 : (2 : Int) ^ n = (P : Int) := by rw [hP]; simp
        have n7 : (P : Int) % 18446744073709551616 = (P : Int) := by omega
        have n7' : IntKind.u64.wrap (P : Int) = (P : Int) := by rw [IntKind.wrap_u64]; omega
        have n8 : IntKind.u64.wrap ((P : Int) - 1) = ((P - 1 : Nat) : Int) := by rw [IntKind.wrap_u64]; omega
        have n9 : ((P : Int) - 1) % 18446744073709551616 = ((P - 1 : Nat) : Int) := by omega
        obtain ⟨Z, hZ⟩ : ∃ Z, Z = X % P := ⟨_, rfl⟩
        rw [← hZ] at hand
        have HZ : Hid (X % 2 ^ n = Z) := Lib.hid (by rw [hZ, hP])
        have HN := Lib.hid h6
        clear hP hZ h6
        by_cases hz : Z = 0
        · subst hz
          have hr := HRES.out
          rw [if_neg (by rw [HZ.out]; exact fun h => h.elim HN.out (fun h => h rfl))] at hr
          obtain ⟨rfl, rfl⟩ : out = r1 ∧ (0 : Int) = r2 := ⟨congrArg Prod.fst hr, congrArg Prod.snd hr⟩
          clear hr
          go_wp2_with fail
          go_ret2
          exact ⟨_, rfl, Kd.R_mono HR.out (fun _ _ => trivial), HB.out⟩
        · have hr := HRES.out
          rw [if_pos (.inr (by rw [HZ.out]; exact hz))] at hr
          obtain ⟨rfl, rfl⟩ : ([] : List Int) = r1 ∧ (8 : Int) = r2 := ⟨congrArg Prod.fst hr, congrArg Prod.snd hr⟩
          clear hr
          have hzi : ((Z : Int) != 0) = true := by simp; omega
          have hzj : ((Z : Int) == 0) = false := by simp; omega
          go_wp2_with fail
          go_ret2
          exact ⟨.slice none 0 0, rfl, Kd.R_nil _ _ _ _ _, HB.out⟩
end Go.Proofs.YtkkomfomjpcbfaaDoor
end
section
namespace Go.Proofs.YtkkomfomjpcbfaaDoor
open Go Go.RowKit Bq
set_option linter.unusedVariables false
set_option linter.unusedSimpArgs false
theorem unL_bad : ∀ (l : List UInt8) (X n : Nat) (out : List Int), (∃ c ∈ l, sixV (c.toNat : Int) = none) → unL l X n out = ([], 8)
  | [], X, n, out, h => by obtain ⟨c, hc, _⟩ := h; cases hc
  | c :: l, X, n, out, h => by
    unfold unL
    cases hv : sixV (c.toNat : Int) with
    | none => rfl
    | some v =>
      have h2 : ∃ c ∈ l, sixV (c.toNat : Int) = none := by
        obtain ⟨d, hd, he⟩ := h
        rcases List.mem_cons.1 hd with rfl | hd
        · rw [hv] at he; cases he
        · exact ⟨d, hd, he⟩
      simp only
      split
      · exact unL_bad l _ _ _ h2
      · exact unL_bad l _ _ _ h2
end Go.Proofs.YtkkomfomjpcbfaaDoor
end
section
namespace Go.Proofs.YtkkomfomjpcbfaaDoor
open Go Go.RowKit Go.Lib Go.Proofs.YtkkomfomjpcbfaaDoor.Pu Go.Proofs.YtkkomfomjpcbfaaDoorW.PrintWords Go.Proofs.YtkkomfomjpcbfaaDoorW.PrintLast Go.Proofs.YtkkomfomjpcbfaaDoorW.PrintMore
set_option linter.unusedVariables false
def ptL : List UInt8 → Nat → Int → Option Int
  | [], _, p => some p
  | c :: l, i, p => if c.toNat = 46 then (if 0 ≤ p then none else ptL l (i + 1) (i : Int)) else ptL l (i + 1) p
def Pt (l : List UInt8) (pt : Int) : Prop := pt = -1 ∨ ∃ p : Nat, pt = (p : Int) ∧ p < l.length ∧ (l.getD p 0).toNat = 46
def High (l : List UInt8) : Prop := ∃ h, h < l.length ∧ 128 ≤ (l.getD h 0).toNat
def PInv (l : List UInt8) (pos : Nat) (pt : Int) : Prop := Pt l pt ∧ (High l ∨ ptL (l.drop pos) pos pt = ptL l 0 (-1))
theorem ptL_some : ∀ (l : List UInt8) (i : Nat) (q p : Int), ptL l i q = some p → p = q ∨ ∃ j, j < l.length ∧ (l.getD j 0).toNat = 46 ∧ p = ((i + j : Nat) : Int)
  | [], i, q, p, h => .inl (by unfold ptL at h; exact (Option.some.inj h).symm)
  | c :: l, i, q, p, h => by
    unfold ptL at h
    split at h
    · rename_i hc
      split at h
      · cases h
      · rcases ptL_some l (i + 1) i p h with h1 | ⟨j, h1, h2, h3⟩
        · exact .inr ⟨0, by simp, by simpa using hc, by simpa using h1⟩
        · exact .inr ⟨j + 1, by simp; omega, by simpa using h2, by rw [h3]; omega⟩
    · rcases ptL_some l (i + 1) q p h with h1 | ⟨j, h1, h2, h3⟩
      · exact .inl h1
      · exact .inr ⟨j + 1, by simp; omega, by simpa using h2, by rw [h3]; omega⟩
theorem PInv.start (l : List UInt8) : PInv l 0 (-1) := ⟨.inl rfl, .inr rfl⟩
theorem PInv.high {l : List UInt8} {pos : Nat} {pt : Int} (h : PInv l pos pt) (hl : pos < l.length) (hh : 128 ≤ (l.getD pos 0).toNat) (q : Nat) : PInv l q pt := ⟨h.1, .inl ⟨pos, hl, hh⟩⟩
theorem PInv.other {l : List UInt8} {pos : Nat} {pt : Int} (h : PInv l pos pt) (hl : pos < l.length) (hc : ¬ (l.getD pos 0).toNat = 46) : PInv l (pos + 1) pt := by
  refine ⟨h.1, h.2.imp id (fun h2 => ?_)⟩
  rw [← h2, drop_cons l pos hl]
  conv => rhs; unfold ptL
  rw [if_neg hc]
theorem PInv.dot {l : List UInt8} {pos : Nat} {pt : Int} (h : PInv l pos pt) (hl : pos < l.length) (hc : (l.getD pos 0).toNat = 46) (h0 : pt < 0) : PInv l (pos + 1) (pos : Int) := by
  refine ⟨.inr ⟨pos, rfl, hl, hc⟩, h.2.imp id (fun h2 => ?_)⟩
  rw [← h2, drop_cons l pos hl]
  conv => rhs; unfold ptL
  rw [if_pos hc, if_neg (by omega)]
theorem PInv.two {l : List UInt8} {pos : Nat} {pt : Int} (h : PInv l pos pt) (hl : pos < l.length) (hc : (l.getD pos 0).toNat = 46) (h0 : 0 ≤ pt) : High l ∨ ptL l 0 (-1) = none := by
  refine h.2.imp id (fun h2 => ?_)
  rw [← h2, drop_cons l pos hl]
  unfold ptL
  rw [if_pos hc, if_pos h0]
theorem PInv.last {l : List UInt8} {pos : Nat} {pt : Int} (h : PInv l pos pt) (hl : l.length ≤ pos) : High l ∨ ptL l 0 (-1) = some pt := by
  refine h.2.imp id (fun h2 => ?_)
  rw [← h2, List.drop_of_length_le hl]
  rfl
theorem un_high {l : List UInt8} (h : High l) : (unL l 0 0 []).2 = 8 := by
  obtain ⟨i, hi, hh⟩ := h
  rw [unL_bad l 0 0 [] ⟨l.getD i 0, by rw [List.getD_eq_getElem?_getD, List.getElem?_eq_getElem hi]; exact List.getElem_mem hi, sixV_high (by omega)⟩]
theorem high_parts {s : ByteArray} (h : High (B s)) (p : Nat) (hp : p < (B s).length) (hc : ((B s).getD p 0).toNat = 46) :
    (unL (s.extract 0 p).data.toList 0 0 []).2 = 8 ∨ (unL (s.extract (p + 1) s.size).data.toList 0 0 []).2 = 8 := by
  obtain ⟨i, hi, hh⟩ := h
  have hne : i ≠ p := fun e => by rw [e, hc] at hh; omega
  rcases Nat.lt_or_gt_of_ne hne with hl | hl
  · refine .inl (un_high ⟨i, ?_, ?_⟩)
    · show i < (B (s.extract 0 p)).length
      rw [B_extract, List.drop_zero, List.length_take]
      omega
    · show 128 ≤ ((B (s.extract 0 p)).getD i 0).toNat
      rw [B_extract, List.drop_zero, List.getD_eq_getElem?_getD, List.getElem?_take, if_pos hl, ← List.getD_eq_getElem?_getD]
      exact hh
  · refine .inr (un_high ⟨i - (p + 1), ?_, ?_⟩)
    · show i - (p + 1) < (B (s.extract (p + 1) s.size)).length
      rw [B_extract, List.length_drop, List.length_take, B_length]
      rw [B_length] at hi
      omega
    · show 128 ≤ ((B (s.extract (p + 1) s.size)).getD (i - (p + 1)) 0).toNat
      rw [B_extract, ← B_length, List.take_length, getD_drop, show p + 1 + (i - (p + 1)) = i by omega]
      exact hh
end Go.Proofs.YtkkomfomjpcbfaaDoor
end
section
namespace Go.Proofs.YtkkomfomjpcbfaaDoor.PTS
open Go.RowKit Go.Proofs.YtkkomfomjpcbfaaDoorW.PrintWords Go.Proofs.YtkkomfomjpcbfaaDoorW.PrintLast Go.Proofs.YtkkomfomjpcbfaaDoorW.PrintMore
attribute [local go_sem] max2_int min2_int max_two min_two max_three min_three max_four min_four
set_option linter.unusedVariables false
set_option linter.unusedSimpArgs false
def errW : Option Int → Value
 | none => .nilIface
 | some c => .iface 0 (.int .i64 c)
theorem errW_none : errW none = .nilIface := rfl
theorem errW_some (c : Int) : errW (some c) = .iface 0 (.int .i64 c) := rfl
theorem info4 : (Tryd.prog.info? 4).map (fun i => (i.zero, i.size, i.bytes)) = some (some (.bool false), 1, 1) := by kernel_rfl
theorem info5 : (Tryd.prog.info? 5).map (fun i => (i.zero, i.size, i.bytes)) = some (some (.int .u8 0), 1, 1) := by kernel_rfl
def rd_L3 (xs : List (List Int)) (i : Int) : (List Int) := xs.getD i.toNat ([] : List Int)
theorem at_L3 {w : World} {A : Option Addr} {n : Nat} {xs : List (List Int)} (h : Kd.C (Kd.slice 5 (Kd.int .u8)) w A n xs) (i : Int) (h0 : 0 ≤ i) (h1 : i < n) : ∃ ad A0 c0, A = some ad ∧ w.cell? (ad.add i.toNat) = some (.slice A0 (rd_L3 xs i).length c0) ∧ (rd_L3 xs i).length ≤ c0 ∧ (Kd.int .u8).C w A0 (rd_L3 xs i).length (rd_L3 xs i) := by
 obtain ⟨ad, c, e, _, hK, hc0⟩ := Kd.C_get h ([] : List Int) i h0 h1
 have hc : ∀ j u, c[j]? = some u → w.cell? (ad.add (i.toNat * 1 + j)) = some u := hc0
 obtain ⟨A0, c0, rfl, l0, g0⟩ := hK
 exact ⟨ad, A0, c0, e, by have hq := hc 0 _ rfl; rwa [Nat.mul_one, Nat.add_zero] at hq, l0, g0⟩
structure S23 where
 f0 : Int
 f1 : ByteArray
def z23 : S23 := ⟨(0 : Int), (⟨#[]⟩ : ByteArray)⟩
def k23 : Kd S23 := Kd.iso (Kd.pair (Kd.int .i64) Kd.string) (fun x : S23 => (x.f0, x.f1))
theorem k23_open {w : World} {x : S23} {cs : List Value} (h : k23.K w x cs) : cs = [.int .i64 x.f0, .string x.f1] := by
 obtain ⟨_, _, rfl, rfl, rfl⟩ := h
 exact rfl
theorem k23_mkM (w : World) (base : Nat) (ok : Nat → Prop) (x : S23)  : k23.M w base ok x [.int .i64 x.f0, .string x.f1] := ⟨[.int .i64 x.f0], [.string x.f1], rfl, rfl, rfl⟩
structure S26 where
 f0 : ByteArray
 f1 : Int
 f2 : Int
 f3 : Int
 f4 : Int
def k26 : Kd S26 := Kd.iso (Kd.pair Kd.string (Kd.pair (Kd.int .i64) (Kd.pair (Kd.int .i64) (Kd.pair (Kd.int .u8) (Kd.int .u64))))) (fun x : S26 => (x.f0, x.f1, x.f2, x.f3, x.f4))
theorem k26_open {w : World} {x : S26} {cs : List Value} (h : k26.K w x cs) : cs = [.string x.f0, .int .i64 x.f1, .int .i64 x.f2, .int .u8 x.f3, .int .u64 x.f4] := by
 obtain ⟨_, _, rfl, rfl, ⟨_, _, rfl, rfl, ⟨_, _, rfl, rfl, ⟨_, _, rfl, rfl, rfl⟩⟩⟩⟩ := h
 exact rfl
structure S43 where
 f0 : ByteArray
 f1 : S23
def z43 : S43 := ⟨(⟨#[]⟩ : ByteArray), z23⟩
def k43 : Kd S43 := Kd.iso (Kd.pair Kd.string k23) (fun x : S43 => (x.f0, x.f1))
theorem k43_open {w : World} {x : S43} {cs : List Value} (h : k43.K w x cs) : cs = [.string x.f0, .int .i64 x.f1.f0, .string x.f1.f1] := by
 obtain ⟨_, _, rfl, rfl, s1⟩ := h
 obtain rfl := k23_open s1
 exact rfl
theorem k43_mkM (w : World) (base : Nat) (ok : Nat → Prop) (x : S43)  : k43.M w base ok x [.string x.f0, .int .i64 x.f1.f0, .string x.f1.f1] := ⟨[.string x.f0], [.int .i64 x.f1.f0, .string x.f1.f1], rfl, rfl, (k23_mkM w base ok x.f1 )⟩
def rd_T43 (xs : List S43) (i : Int) : S43 := xs.getD i.toNat z43
theorem at_T43 {w : World} {A : Option Addr} {n : Nat} {xs : List S43} (h : Kd.C k43 w A n xs) (i : Int) (h0 : 0 ≤ i) (h1 : i < n) : ∃ ad , A = some ad ∧ w.cell? (ad.add (i.toNat * 3)) = some (.string (rd_T43 xs i).f0) ∧ w.cell? ⟨(ad.add (i.toNat * 3)).block, (ad.add (i.toNat * 3)).off + 1, none⟩ = some (.int .i64 (rd_T43 xs i).f1.f0) ∧ w.cell? ⟨(ad.add (i.toNat * 3)).block, (ad.add (i.toNat * 3)).off + 2, none⟩ = some (.string (rd_T43 xs i).f1.f1) := by
 obtain ⟨ad, c, e, _, hK, hc0⟩ := Kd.C_get h z43 i h0 h1
 have hc : ∀ j u, c[j]? = some u → w.cell? (ad.add (i.toNat * 3 + j)) = some u := hc0
 obtain rfl := k43_open hK
 exact ⟨ad, e, hc 0 _ rfl, by rw [← add_field _ _ 1 (by omega)]; exact hc 1 _ rfl, by rw [← add_field _ _ 2 (by omega)]; exact hc 2 _ rfl⟩
end Go.Proofs.YtkkomfomjpcbfaaDoor.PTS
end
section
namespace Go.Proofs.YtkkomfomjpcbfaaDoor
open Go.RowKit Go.Proofs.YtkkomfomjpcbfaaDoorW.PrintWords Go.Proofs.YtkkomfomjpcbfaaDoorW.PrintMore Go.Proofs.YtkkomfomjpcbfaaDoorW.PrintLast
set_option linter.unusedVariables false
set_option linter.unusedSimpArgs false
attribute [local go_sem ↓] Go.wp_at_zero Go.wp_at_succ
theorem bits_or_comm (k : IntKind) (x y : Int) : bits .or k x y = bits .or k y x := by simp only [bits, BitVec.or_comm]
theorem rright_calls (x : Int) (n : Nat) (w : World) (h0 : 0 < n) (h1 : n < 32) :
    Calls Tryd.prog 76 #[.int .u32 x, .int .u64 n] w fun e w' => e = .returned (.int .u32 (Sha.rot (-(n : Int)) x)) ∧ w = w' := by
  obtain ⟨m, hm⟩ : ∃ m, m = 32 - n := ⟨_, rfl⟩
  have e1 : (32 - (n : Int)).toNat = m := by omega
  have e3 : IntKind.u64.wrap (32 - (n : Int)) = 32 - (n : Int) := by rw [IntKind.wrap_u64]; omega
  have e4 : (0 : Int) ≤ 32 - (n : Int) := by omega
  have HM := Lib.hid hm
  clear hm
  go_enter Tryd.func76, Tryd.ntmps76
  go_wp2
  go_ret
  refine ⟨?_, rfl⟩
  have e : (-(-(n : Int))).toNat = n := by omega
  unfold Sha.rot
  rw [e, ← HM.out, bits_or_comm]
  rfl
section
variable {ops : Array Oper} {rest : List Oper} {o : Oper} {a : Act} {w : World} {Q : Exit → Act → World → Prop}
theorem wl_run {P : Program} (v : Value) (hgd : o.guard = none) (hr : Sem.run P (execOp a.eval o) w = .ok (.value v) w) (h : wpList P ops Q rest (a.put o.dst v) w) : wpList P ops Q (o :: rest) a w := by
  refine wpList_plain hgd fun K hK => ?_
  unfold Oper.wp
  rw [hr]
  exact hK _ _ h
end
set_option maxRecDepth 20000 in
theorem table_calls (w : World) :
    Calls Tryd.prog 74 #[] w fun e w' => e = .returned (.agg (nums .u32 Sha.K).toArray) ∧ Below w.heap.size w w' := by
  go_enter Tryd.func74, Tryd.ntmps74
  go_upto_region 1 with fail
  obtain ⟨w1, hw1⟩ : ∃ w1, w1 = w.alloc (.cells (nums .u32 (List.replicate 64 0)).toArray 99) := ⟨_, rfl⟩
  have k1 : Blk w1 w.heap.size .u32 99 (List.replicate 64 0) := by rw [hw1]; exact blk_new w _
  have b1 : Below w.heap.size w w1 := by rw [hw1]; exact (Below.refl _ w).alloc (Nat.le_refl _) _
  change Code.wp _ _ _ _ (w.alloc (.cells (nums .u32 (List.replicate 64 0)).toArray 99))
  rw [← hw1]
  clear hw1
  have hsz : (Tryd.prog.info? 99).map (·.size) = some (nums .u32 Sha.K).toArray.size := by kernel_rfl
  refine wp_region_lit ?_
  refine wl_run (.agg (nums .u32 Sha.K).toArray) rfl (by kernel_rfl) ?_
  refine wpList_store_mid rfl _ _ _ rfl w.heap.size 0 (nums .u32 Sha.K).toArray rfl rfl k1.there hsz (all_oneCell_toArray (nums_one .u32 Sha.K)) ?_
  rw [List.toList_toArray]
  change wpList _ _ _ _ _ (putA w1 w.heap.size .u32 Sha.K)
  simp only [Act.put, List.setIfInBounds_toArray, List.set_cons_zero, List.set_cons_succ]
  have hfin := k1.putA (k' := .u32) (ys := Sha.K) rfl
  have HF := Lib.hid hfin
  have HB := Lib.hid (putA_below (g := w.heap.size) (k := .u32) (ys := Sha.K) b1 (Nat.le_refl _))
  generalize putA w1 w.heap.size .u32 Sha.K = w2 at HF HB ⊢
  clear hfin k1 b1
  go_wp2_with fail
  exact bodyPost_ret (results_cell_row rfl _ _ w.heap.size 99 (nums .u32 Sha.K).toArray (0, 0) _ rfl HF.out Tryd.underlying99 rfl hsz) rfl ⟨rfl, HB.out⟩
end Go.Proofs.YtkkomfomjpcbfaaDoor
end
section
namespace Go.Proofs.YtkkomfomjpcbfaaDoor
open Go Go.RowKit Go.Proofs.YtkkomfomjpcbfaaDoorW.PrintWords Go.Proofs.YtkkomfomjpcbfaaDoorW.PrintMore Go.Proofs.YtkkomfomjpcbfaaDoorW.PrintLast Bq
set_option linter.unusedVariables false
set_option linter.unusedSimpArgs false
attribute [local go_sem ↓] Go.wp_at_zero Go.wp_at_succ
def be (xs : List Int) : Nat := xs.foldl (fun a x => a * 256 + x.toNat) 0
theorem bitsOf_snoc (xs : List Int) (x : Int) : bitsOf (xs ++ [x]) (8 * xs.length + 8) = bitsOf xs (8 * xs.length) ++ nb x.toNat 8 := by
  unfold bitsOf nb
  rw [List.range_add, List.map_append, List.map_map]
  congr 1
  · apply List.map_congr_left
    intro i hi
    have hi : i < 8 * xs.length := List.mem_range.1 hi
    unfold bitAt
    rw [List.getD_eq_getElem?_getD, List.getD_eq_getElem?_getD, List.getElem?_append_left (by omega)]
  · apply List.map_congr_left
    intro j hj
    have hj : j < 8 := List.mem_range.1 hj
    show bitAt (xs ++ [x]) (8 * xs.length + j) = x.toNat.testBit (8 - 1 - j)
    unfold bitAt
    have e1 : (8 * xs.length + j) / 8 = xs.length := by omega
    have e2 : 7 - (8 * xs.length + j) % 8 = 8 - 1 - j := by omega
    rw [e1, e2, List.getD_eq_getElem?_getD, List.getElem?_append_right (Nat.le_refl _), Nat.sub_self]
    rfl
theorem bnum_bytes (xs : List Int) (hb : Byts xs) : bnum (bitsOf xs (8 * xs.length)) = be xs := by
  induction xs using snoc_ind with
  | h0 => rfl
  | h1 l b ih =>
    have h1 := ih (fun x hx => hb x (List.mem_append_left _ hx))
    have h2 := hb b (List.mem_append_right _ (List.mem_singleton.2 rfl))
    rw [List.length_append, List.length_singleton, Nat.mul_add, bitsOf_snoc, bnum_append, nb_length, bnum_nb, h1]
    unfold be
    rw [List.foldl_append]
    simp only [List.foldl_cons, List.foldl_nil]
    have : b.toNat % 2 ^ 8 = b.toNat := by omega
    omega
theorem pack_nb (m k : Nat) : pack (nb m (8 * (k + 1))) = m / 2 ^ (8 * k) % 256 :: pack (nb m (8 * k)) := by
  have h1 : 8 * (k + 1) = 8 + 8 * k := by omega
  rw [h1, nb_add m (8 * k) 8, pack_append 1 _ _ (by rw [nb_length]), pack_short _ (by intro h; have := congrArg List.length h; rw [nb_length] at this; simp at this) (by rw [nb_length]; omega)]
  have h2 : byte8 (nb (m / 2 ^ (8 * k)) 8) = m / 2 ^ (8 * k) % 256 := by
    unfold byte8
    rw [bnum_nb, nb_length]
    omega
  rw [h2]
  rfl
theorem big8_pack (m : Nat) : packI (nb m 64) = Sha.big8 m := by
  have h : pack (nb m 64) = (List.range 8).map fun i => m / 2 ^ (56 - 8 * i) % 256 := by
    show pack (nb m (8 * 8)) = _
    rw [pack_nb m 7, pack_nb m 6, pack_nb m 5, pack_nb m 4, pack_nb m 3, pack_nb m 2, pack_nb m 1, pack_nb m 0]
    show _ :: _ :: _ :: _ :: _ :: _ :: _ :: _ :: pack (nb m 0) = _
    rw [nb_zero, pack_nil]
    rfl
  unfold packI ints Sha.big8
  rw [h, List.map_map]
  rfl
set_option maxHeartbeats 2000000 in
theorem of_calls (w : World) (A : Option Addr) (c : Nat) (xs : List Int) (hC : (Kd.int .u8).C w A xs.length xs) (hb : Byts xs) (hl : xs.length ≤ 8) :
    Calls Tryd.prog 77 #[.slice A xs.length c] w fun e w' => e = .returned (.int .u64 (be xs : Nat)) ∧ Below w.heap.size w w' := by
  have e1 : IntKind.i64.wrap (8 * (xs.length : Int)) = ((8 * xs.length : Nat) : Int) := by rw [IntWalk.i64_in _ (by omega)]; omega
  have hbn := bnum_bytes xs hb
  have HBN := Lib.hid hbn
  have HRB := Lib.hid (rbits_calls w A c xs (8 * xs.length) hC hb (Nat.le_refl _) (by omega))
  clear hbn hC hb
  go_enter Tryd.func77, Tryd.ntmps77
  go_wp2_with (first | (go_at_call 50; refine HRB.out.mono ?_; rintro e w1 ⟨v, rfl, hR, hB⟩; obtain ⟨A1, c1, hv⟩ := Kd.R_slice hR; subst hv; have hC1 := (Kd.R_reads' hR).2.2; rw [bitsOf_length] at hC1; have hN := number_calls w1 A1 c1 (bitsOf xs (8 * xs.length)) (by rw [bitsOf_length]; exact hC1) (by rw [bitsOf_length]; omega); have HN := Lib.hid hN; have HB1 := Lib.hid hB; clear hR hB hC1 hN) | (go_at_call 51; refine HN.out.mono ?_; rintro e w' ⟨rfl, rfl⟩))
  go_ret
  rw [← HBN.out]
  exact ⟨rfl, HB1.out⟩
set_option maxHeartbeats 2000000 in
theorem big_calls (w : World) (n : Nat) (hn : n < 18446744073709551616) :
    Calls Tryd.prog 69 #[.int .u64 n] w fun e w' => ∃ v, e = .returned v ∧ (Kd.int .u8).R 5 w' w.heap.size (fun k => w.heap.size ≤ k) v (Sha.big8 n) ∧ Below w.heap.size w w' := by
  have HP := Lib.hid (rput_calls w w.heap.size (fun k => w.heap.size ≤ k) (.slice none 0 0) [] n 64 (Kd.R_nil _ _ _ _ _) (Nat.le_refl _) (Nat.le_refl _) hn (by decide))
  go_enter Tryd.func69, Tryd.ntmps69
  go_wp2_with (first | (go_at_call 60; refine HP.out.mono ?_; rintro e w1 ⟨v, rfl, hR, hM⟩; obtain ⟨A1, c1, hv⟩ := Kd.R_slice hR; subst hv; have hC1 := (Kd.R_reads' hR).2.2; have hBy := rbytes_calls w1 A1 c1 _ hC1 (by rw [List.nil_append, nb_length]; decide); have HBY := Lib.hid hBy; have HM1 := Lib.hid (Mod.below hM (Nat.le_refl _) (fun k hk => hk)); clear hR hM hC1 hBy) | (go_at_call 61; refine HBY.out.mono ?_; rintro e w2 ⟨v2, rfl, hR2, hB2⟩; have HR2 := Lib.hid hR2; have HB2 := Lib.hid hB2; clear hR2 hB2))
  go_ret
  have hs := HM1.out.size
  have h2 := HR2.out
  rw [List.nil_append, big8_pack] at h2
  exact ⟨v2, rfl, Kd.R_lower (Kd.R_mono h2 (fun k hk => Nat.le_trans hs hk)) hs, HM1.out.trans (below_lower HB2.out hs)⟩
end Go.Proofs.YtkkomfomjpcbfaaDoor
end
