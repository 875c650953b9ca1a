import Derived.Test.YtdckhaejhfkkbaaDoorCRecordBackPRTx0
import Derived.Test.YtdckhaejhfkkbaaDoorCRecordBackPRTx3
import Derived.Test.YtdckhaejhfkkbaaDoorCRecordBackPRTx4
import Derived.Test.YtdckhaejhfkkbaaDoorCRecordBackO2
import Derived.Test.YtdckhaejhfkkbaaDoorCRecordBackPRTx2
import Derived.Test.YtdckhaejhfkkbaaDoorCRecordBackY
namespace Go.Proofs.YtdckhaejhfkkbaaDoor.PRT
open Go.RowKit Go.Proofs.YtdckhaejhfkkbaaDoorW.PrintWords Go.Proofs.YtdckhaejhfkkbaaDoorW.PrintLast Go.Proofs.YtdckhaejhfkkbaaDoorW.PrintMore
attribute [local go_sem] max2_int min2_int max_two min_two max_three min_three max_four min_four
set_option linter.unusedVariables false
set_option linter.unusedSimpArgs false
section
open Go Go.RowKit Go.Proofs.YtdckhaejhfkkbaaDoor Go.Proofs.YtdckhaejhfkkbaaDoorW.PrintWords Go.Proofs.YtdckhaejhfkkbaaDoorW.PrintLast Go.Proofs.YtdckhaejhfkkbaaDoorW.PrintMore
set_option linter.unusedVariables false
set_option linter.unusedSimpArgs false
attribute [local go_sem ↓] Go.wp_at_zero Go.wp_at_succ
def few1 (k : Nat) (b : List Int) (a e : Int) : Option (Int × Int × Int) :=
 if e = 0 then (if 0 ≤ a then (if a ≤ (b.length : Int) then (bits_Varint.f k (b.drop a.toNat)).bind fun p => some (p.1, wrap64 (a + p.2.1), p.2.2) else none) else none) else some (0, a, e)
theorem few1.mono : ∀ b a e k, LeO (few1 k b a e) (few1 (k + 1) b a e) := by
 intro b a e k
 unfold few1
 split
 ·split
  ·split
   ·exact LeO.bind (bits_Varint.mono _ _) (fun p => LeO.refl _)
   ·exact LeO.refl _
  ·exact LeO.refl _
 ·exact LeO.refl _
set_option maxRecDepth 20000 in
set_option maxHeartbeats 4000000 in
theorem few2_calls (W : World) (bb ba be : Nat) (A : Option Addr) (c : Nat) (l : List Int) (a e v a' e' : Int) (k : Nat) (hb : W.heap[bb]? = some (.cells #[.slice A l.length c] 22 (0, 0))) (ha : W.heap[ba]? = some (.cells #[.int .i64 a] 3 (0, 0))) (he : W.heap[be]? = some (.cells #[.int .i64 e] 30 (0, 0)))
  (hC : Kd.C (Kd.int .u8) W A l.length l) (hc : l.length ≤ c) (h : few1 k l a e = some (v, a', e')) :
  Calls Tryd.prog 40 #[.pointer (some ⟨be, 0, none⟩), .pointer (some ⟨bb, 0, none⟩), .pointer (some ⟨ba, 0, none⟩)] W fun r w' => r = .returned (.int .i64 v) ∧ w'.heap[ba]? = some (.cells #[.int .i64 a'] 3 (0, 0)) ∧ w'.heap[be]? = some (.cells #[.int .i64 e'] 30 (0, 0)) ∧ Mod (fun k => k = ba ∨ k = be) W w' := by
 have cb : W.cell? ⟨bb, 0, none⟩ = some (.slice A l.length c) := (blk_cell hb 0).trans rfl
 have ca : W.cell? ⟨ba, 0, none⟩ = some (.int .i64 a) := (blk_cell ha 0).trans rfl
 have ce : W.cell? ⟨be, 0, none⟩ = some (.int .i64 e) := (blk_cell he 0).trans rfl
 have HBA := Lib.hid (And.intro ha he)
 have HC := Lib.hid hC
 by_cases he0 : e = 0
 ·subst he0
  unfold few1 at h
  rw [if_pos rfl] at h
  split at h
  ·rename_i h0
   split at h
   ·rename_i h1
    obtain ⟨n, rfl⟩ := Int.eq_ofNat_of_zero_le h0
    rw [Int.toNat_natCast] at h
    cases hv : bits_Varint.f k (l.drop n) with
    | none => rw [hv] at h; cases h
    | some p =>
    obtain ⟨v1, d1, e1⟩ := p
    rw [hv, Option.bind_some] at h
    obtain ⟨rfl, rfl, rfl⟩ : v1 = v ∧ wrap64 ((n : Int) + d1) = a' ∧ e1 = e' := by
     have h5 := Option.some.inj h
     exact ⟨congrArg Prod.fst h5, congrArg (fun z => z.2.1) h5, congrArg (fun z => z.2.2) h5⟩
    have hn : n ≤ l.length := by omega
    have HV : Hid (∀ (A' : Option Addr) (c' : Nat), l.length - n ≤ c' → Kd.C (Kd.int .u8) W A' (l.drop n).length (l.drop n) → Calls Tryd.prog 41 #[.slice A' (l.length - n) c'] W fun r w' => r = .returned (.tuple #[.int .i64 v1, .int .i64 d1, .int .i64 e1]) ∧ Drawn0 W w') := Lib.hid (fun A' c' hcl hd => by
     have h7 := bits_Varint.calls k A' c' (l.drop n) v1 d1 e1 W hd (by rw [List.length_drop]; exact hcl) hv
     rw [List.length_drop] at h7
     exact h7)
    have HCD := Lib.hid (Kd.C_drop (m := n) (c := c) hC hn hc)
    have hne : ba ≠ be := fun e => by
     rw [e, he] at ha
     simp at ha
    have HNE := Lib.hid hne
    have fa := blk_frozen ha 0
    have fe := blk_frozen he 0
    have hni : (n : Int) ≤ (c : Int) := by omega
    clear h hv hb ha he hC h0 hne
    by_cases hcn : c = n
    ·have HV2 : Hid (Calls Tryd.prog 41 #[.slice A (l.length - n) 0] W fun r w' => r = .returned (.tuple #[.int .i64 v1, .int .i64 d1, .int .i64 e1]) ∧ Drawn0 W w') := Lib.hid (HV.out A 0 (by omega) (by have := HCD.out; rwa [if_pos hcn] at this))
     go_enter Tryd.func40, Tryd.ntmps40
     go_upto_region 4 with (go_at_call 41; go_loud (refine HV2.out.mono ?_); rintro r w3 ⟨rfl, hD⟩; obtain ⟨nd, rfl⟩ := hD)
     have ca3 : (W.drewN nd).cell? ⟨ba, 0, none⟩ = some (.int .i64 (n : Int)) := ca
     have fa3 : (W.drewN nd).frozen? ⟨ba, 0, none⟩ = false := fa
     go_upto_region 5 with fail
     obtain ⟨W5, hW5⟩ : ∃ W5, W5 = (W.drewN nd).setCell ⟨ba, 0, none⟩ (.int .i64 (wrap64 ((n : Int) + d1))) := ⟨_, rfl⟩
     have h5a : W5.heap[ba]? = some (.cells #[.int .i64 (wrap64 ((n : Int) + d1))] 3 (0, 0)) := by rw [hW5]; exact blk_put (w := W.drewN nd) HBA.out.1 0 _ rfl
     have h5e : W5.heap[be]? = some (.cells #[.int .i64 0] 30 (0, 0)) := by rw [hW5]; exact (Below.heap_setCell _ ⟨ba, 0, none⟩ _ be (fun e => HNE.out e.symm)).trans HBA.out.2
     have hM5 : Mod (fun k => k = ba ∨ k = be) W W5 := by rw [hW5]; exact ((Mod.refl _ W).drewN nd).setCell (p := ⟨ba, 0, none⟩) (.inl (.inl rfl)) _
     rw [← hW5]
     clear hW5 ca3 fa3 ca fa cb
     have ce5 : W5.cell? ⟨be, 0, none⟩ = some (.int .i64 0) := (blk_cell h5e 0).trans rfl
     have fe5 := blk_frozen h5e 0
     have H5 := Lib.hid (And.intro h5a (And.intro h5e hM5))
     clear h5a h5e hM5
     go_wp2_with fail
     go_ret
     exact ⟨rfl, (Below.heap_setCell _ ⟨be, 0, none⟩ _ ba HNE.out).trans H5.out.1, blk_put H5.out.2.1 0 _ rfl, H5.out.2.2.setCell (p := ⟨be, 0, none⟩) (.inl (.inr rfl)) _⟩
    ·have HV2 : Hid (Calls Tryd.prog 41 #[.slice (A.map (fun x => x.add n)) (l.length - n) (c - n)] W fun r w' => r = .returned (.tuple #[.int .i64 v1, .int .i64 d1, .int .i64 e1]) ∧ Drawn0 W w') := Lib.hid (HV.out _ (c - n) (by omega) (by
      have h9 := HCD.out
      rw [if_neg hcn] at h9
      rw [show (fun x : Addr => x.add n) = (fun x : Addr => x.add (n * (Kd.int .u8).sz)) from by funext x; show x.add n = x.add (n * 1); rw [Nat.mul_one]]
      exact h9))
     go_enter Tryd.func40, Tryd.ntmps40
     go_upto_region 4 with (go_at_call 41; go_loud (refine HV2.out.mono ?_); rintro r w3 ⟨rfl, hD⟩; obtain ⟨nd, rfl⟩ := hD)
     have ca3 : (W.drewN nd).cell? ⟨ba, 0, none⟩ = some (.int .i64 (n : Int)) := ca
     have fa3 : (W.drewN nd).frozen? ⟨ba, 0, none⟩ = false := fa
     go_upto_region 5 with fail
     obtain ⟨W5, hW5⟩ : ∃ W5, W5 = (W.drewN nd).setCell ⟨ba, 0, none⟩ (.int .i64 (wrap64 ((n : Int) + d1))) := ⟨_, rfl⟩
     have h5a : W5.heap[ba]? = some (.cells #[.int .i64 (wrap64 ((n : Int) + d1))] 3 (0, 0)) := by rw [hW5]; exact blk_put (w := W.drewN nd) HBA.out.1 0 _ rfl
     have h5e : W5.heap[be]? = some (.cells #[.int .i64 0] 30 (0, 0)) := by rw [hW5]; exact (Below.heap_setCell _ ⟨ba, 0, none⟩ _ be (fun e => HNE.out e.symm)).trans HBA.out.2
     have hM5 : Mod (fun k => k = ba ∨ k = be) W W5 := by rw [hW5]; exact ((Mod.refl _ W).drewN nd).setCell (p := ⟨ba, 0, none⟩) (.inl (.inl rfl)) _
     rw [← hW5]
     clear hW5 ca3 fa3 ca fa cb
     have ce5 : W5.cell? ⟨be, 0, none⟩ = some (.int .i64 0) := (blk_cell h5e 0).trans rfl
     have fe5 := blk_frozen h5e 0
     have H5 := Lib.hid (And.intro h5a (And.intro h5e hM5))
     clear h5a h5e hM5
     go_wp2_with fail
     go_ret
     exact ⟨rfl, (Below.heap_setCell _ ⟨be, 0, none⟩ _ ba HNE.out).trans H5.out.1, blk_put H5.out.2.1 0 _ rfl, H5.out.2.2.setCell (p := ⟨be, 0, none⟩) (.inl (.inr rfl)) _⟩
   ·cases h
  ·cases h
 ·unfold few1 at h
  rw [if_neg he0] at h
  obtain ⟨rfl, rfl, rfl⟩ : (0 : Int) = v ∧ a = a' ∧ e = e' := by
   have h5 := Option.some.inj h
   exact ⟨congrArg Prod.fst h5, congrArg (fun z => z.2.1) h5, congrArg (fun z => z.2.2) h5⟩
  have hne : (e != 0) = true := bne_iff_ne.2 he0
  clear h hb ha he hC
  go_enter Tryd.func40, Tryd.ntmps40
  go_wp2
  go_ret
  exact ⟨rfl, HBA.out.1, HBA.out.2, Mod.refl _ _⟩
end
section
open Go Go.RowKit Go.Proofs.YtdckhaejhfkkbaaDoor Go.Proofs.YtdckhaejhfkkbaaDoorW.PrintWords Go.Proofs.YtdckhaejhfkkbaaDoorW.PrintLast Go.Proofs.YtdckhaejhfkkbaaDoorW.PrintMore
set_option linter.unusedVariables false
set_option linter.unusedSimpArgs false
attribute [local go_sem ↓] Go.wp_at_zero Go.wp_at_succ
def v8 (v x : Int) : Int := bits .or .u64 (IntKind.u64.wrap (v * 256)) (IntKind.u64.wrap x)
def refN (r v1 : Int) : Int := IntKind.u64.wrap (IntKind.u64.wrap r + IntKind.u64.wrap v1)
def seqN (s v3 : Int) : Int := IntKind.u64.wrap (s + IntKind.u64.wrap v3)
def errR (e1 rf : Int) : Int := if e1 = 0 then (if rf = 0 then 1 else if rf > 4294967295 then 1 else 0) else e1
def errS (e3 sq : Int) : Int := if e3 = 0 then (if sq = 0 then 1 else 0) else e3
def errN (e n : Int) : Int := if e = 0 then (if n < 8 then 6 else 0) else e
def recStep (k : Nat) (b : List Int) (a r t s : Int) : Option (Int × Int × Int × Int × Int × Int) :=
 (few1 k b a 0).bind fun p1 => (few1 k b p1.2.1 (errR p1.2.2 (refN r p1.1))).bind fun p2 => (few1 k b p2.2.1 p2.2.2).bind fun p3 =>
  if errN (errS p3.2.2 (seqN s p3.1)) (wrap64 ((b.length : Int) - p3.2.1)) = 0 then
   (if 0 ≤ p3.2.1 then (if p3.2.1 + 8 ≤ (b.length : Int) then (if (b.length : Int) ≤ 1000000000000 then some (0, p3.2.1 + 8, refN r p1.1 % 4294967296, wrap64 (t + p2.1), ((b.drop p3.2.1.toNat).take 8).foldl v8 0, seqN s p3.1) else none) else none) else none)
  else some (errN (errS p3.2.2 (seqN s p3.1)) (wrap64 ((b.length : Int) - p3.2.1)), 0, 0, 0, 0, 0)
theorem recStep.mono : ∀ b a r t s k, LeO (recStep k b a r t s) (recStep (k + 1) b a r t s) := by
 intro b a r t s k
 unfold recStep
 exact LeO.bind (few1.mono _ _ _ _) (fun p1 => LeO.bind (few1.mono _ _ _ _) (fun p2 => LeO.bind (few1.mono _ _ _ _) (fun p3 => LeO.refl _)))
def recLoop (k : Nat) (b : List Int) : Nat → Int → Int → Int → Int → List S45 → Option (Int × Int × List S45)
 | 0, a, _, _, _, out => some (0, a, out)
 | m + 1, a, r, t, s, out => (recStep k b a r t s).bind fun q => if q.1 = 0 then recLoop k b m q.2.1 q.2.2.1 q.2.2.2.1 q.2.2.2.2.2 (out ++ [⟨q.2.2.1, ⟨q.2.2.2.1, q.2.2.2.2.1, q.2.2.2.2.2⟩⟩]) else some (q.1, 0, [])
theorem recLoop.mono : ∀ b m a r t s out k, LeO (recLoop k b m a r t s out) (recLoop (k + 1) b m a r t s out)
 | b, 0, a, r, t, s, out, k => LeO.refl _
 | b, m + 1, a, r, t, s, out, k => by
  unfold recLoop
  refine LeO.bind (recStep.mono _ _ _ _ _ _) (fun q => ?_)
  split
  ·exact recLoop.mono b m _ _ _ _ _ k
  ·exact LeO.refl _
def recPoints (k : Nat) (b : List Int) : Option (Int × Int × List S52 × List S45 × Int) :=
 (bits_Uvarint.f k b).bind fun p => if p.2.2 = 0 then (if p.1 > 256 then some (0, 0, [], [], 3) else if p.1 = 0 then some (0, 0, [], [], 1) else if 0 ≤ p.1 then
   (recLoop k b p.1.toNat p.2.1 0 0 0 []).bind fun q => if q.1 = 0 then (if q.2.1 < (b.length : Int) then some (0, 0, [], [], 8) else some (2, 0, [], q.2.2, 0)) else some (0, 0, [], [], q.1)
   else none)
  else some (0, 0, [], [], p.2.2)
theorem recPoints.mono : ∀ b k, LeO (recPoints k b) (recPoints (k + 1) b) := by
 intro b k
 unfold recPoints
 refine LeO.bind (bits_Uvarint.mono _ _) (fun p => ?_)
 split
 ·split
  ·exact LeO.refl _
  ·split
   ·exact LeO.refl _
   ·split
    ·exact LeO.bind (recLoop.mono _ _ _ _ _ _ _ _) (fun q => LeO.refl _)
    ·exact LeO.refl _
 ·exact LeO.refl _
theorem goesV_ {P : Program} {ops : Array Oper} {Q : Exit → Act → World → Prop} {oi : Oper} {N : Option Tmp} {a : Act} {w : World} {K : Act → World → Prop} {f : FuncId} {fn : Func} {x : Operand} {ops2 : Array Operand} {ts : Array TypeId} (hf : P.funcs[f]? = some fn) (hname : (fn.name == "runtime.NumGoroutine") = false) (hb : fn.body.isSome = true) (args caps : Array Value)
  (hw : Region.wanted oi (yielded ops a.tmps) = true) (hN : oi.dst = N) (hop : oi.op = .call { callee := .value x, args := ops2, argTypes := ts }) (hx : a.eval x = .func (.func f) #[] caps) (hargs : ops2.map a.eval = args)
  (h : Calls P f (args ++ caps) w fun e w' => ∃ v, e = .returned v ∧ K (a.put N v) w') : if Region.wanted oi (yielded ops a.tmps) = true then Oper.wp P oi a w K Q else K (a.put N undef) w := by
 refine call_ f (args ++ caps) hw hN ?_ h
 have he := enters_ hf hname hb (args ++ caps) w
 unfold execOp
 simp [hop, resolve, Deferred.ofValue, invoke, hx, hargs, he]
theorem ty_ne {W : World} {g g' t t' : Nat} {c c' : Array Value} (h : W.heap[g]? = some (.cells c t (0, 0))) (h' : W.heap[g']? = some (.cells c' t' (0, 0))) (ht : t ≠ t') : g ≠ g' := fun e => by
 rw [e, h'] at h
 injection h with h
 injection h with _ h
 exact ht h.symm
structure PT (w wr : World) (bb ba be bp bq br : Nat) (A : Option Addr) (c : Nat) (l : List Int) (a e r t v s : Int) (vp : Value) (pts : List S45) : Prop where
 B : Below w.heap.size w wr
 b : wr.heap[bb]? = some (.cells #[.slice A l.length c] 22 (0, 0))
 a : wr.heap[ba]? = some (.cells #[.int .i64 a] 3 (0, 0))
 e : wr.heap[be]? = some (.cells #[.int .i64 e] 30 (0, 0))
 p : wr.heap[bp]? = some (.cells #[.int .u32 r, .int .i64 t, .int .u64 v, .int .u64 s] 45 (0, 0))
 q : wr.heap[bq]? = some (.cells #[.int .i64 2, .int .u32 0, .slice none 0 0, vp] 29 (0, 0))
 R : Kd.R k45 45 wr w.heap.size (fun k => k ≠ bp) vp pts
 z : wr.heap[br]? = some (.cells #[.int .i64 0, .int .u32 0, .slice none 0 0, .slice none 0 0] 29 (0, 0))
 la : w.heap.size ≤ ba
 le : w.heap.size ≤ be
 lp : w.heap.size ≤ bp
 lq : w.heap.size ≤ bq
 lr : w.heap.size ≤ br
 qz : bq ≠ br
section
variable {w wr w' : World} {bb ba be bp bq br : Nat} {A : Option Addr} {c : Nat} {l : List Int} {a e r t v s a' e' : Int} {vp : Value} {pts : List S45}
theorem R45 {W : World} {base : Nat} {ok : Nat → Prop} (h : Kd.R k45 45 W base ok vp pts) {S : Nat → Prop} (hm : Mod S W w') (hS : ∀ g cs, ok g → W.heap[g]? = some (.cells cs 45 (0, 0)) → ¬ S g) : Kd.R k45 45 w' base ok vp pts := by
 refine Kd.R_mono (Kd.R_move (Kd.R_bound h) (fun k hk => ?_)) (fun _ hk => hk.1)
 obtain ⟨h1, _, h3, q, hq, cells, hc⟩ := hk
 have hq' : q ∈ [45] := hq
 rw [List.mem_singleton.1 hq'] at hc
 exact hm.block k h3 (hS k cells h1 hc)
theorem PT.few (h : PT w wr bb ba be bp bq br A c l a e r t v s vp pts) (hA : w'.heap[ba]? = some (.cells #[.int .i64 a'] 3 (0, 0))) (hE : w'.heap[be]? = some (.cells #[.int .i64 e'] 30 (0, 0))) (hM : Mod (fun k => k = ba ∨ k = be) wr w') :
  PT w w' bb ba be bp bq br A c l a' e' r t v s vp pts := by
 have hne : ∀ (g : Nat) (cs : Array Value) (T : Nat), wr.heap[g]? = some (.cells cs T (0, 0)) → T ≠ 3 → T ≠ 30 → ¬ (g = ba ∨ g = be) := fun g cs T hg h1 h2 hh => by
  rcases hh with hh | hh
  ·exact ty_ne hg h.a h1 hh
  ·exact ty_ne hg h.e h2 hh
 refine ⟨h.B.trans (hM.below h.B.size (fun g hg => ?_)), hM.blk h.b (hne _ _ _ h.b (by decide) (by decide)), hA, hE, hM.blk h.p (hne _ _ _ h.p (by decide) (by decide)), hM.blk h.q (hne _ _ _ h.q (by decide) (by decide)), R45 h.R hM (fun g cs _ hg => hne g cs _ hg (by decide) (by decide)), hM.blk h.z (hne _ _ _ h.z (by decide) (by decide)), h.la, h.le, h.lp, h.lq, h.lr, h.qz⟩
 rcases hg with rfl | rfl
 ·exact h.la
 ·exact h.le
theorem PT.setE (h : PT w wr bb ba be bp bq br A c l a e r t v s vp pts) (e2 : Int) : PT w (wr.setCell ⟨be, 0, none⟩ (.int .i64 e2)) bb ba be bp bq br A c l a e2 r t v s vp pts := by
 have far : ∀ (g : Nat) (cs : Array Value) (T : Nat), wr.heap[g]? = some (.cells cs T (0, 0)) → T ≠ 30 → (wr.setCell ⟨be, 0, none⟩ (.int .i64 e2)).heap[g]? = some (.cells cs T (0, 0)) := fun g cs T hg h1 => (Below.heap_setCell wr ⟨be, 0, none⟩ _ g (ty_ne hg h.e h1)).trans hg
 exact ⟨h.B.setCell (p := ⟨be, 0, none⟩) h.le _, far _ _ _ h.b (by decide), far _ _ _ h.a (by decide), blk_put h.e 0 _ rfl, far _ _ _ h.p (by decide), far _ _ _ h.q (by decide), Kd.R_set h.R h.e (by decide) 0 _, far _ _ _ h.z (by decide), h.la, h.le, h.lp, h.lq, h.lr, h.qz⟩
theorem PT.setA (h : PT w wr bb ba be bp bq br A c l a e r t v s vp pts) (a2 : Int) : PT w (wr.setCell ⟨ba, 0, none⟩ (.int .i64 a2)) bb ba be bp bq br A c l a2 e r t v s vp pts := by
 have far : ∀ (g : Nat) (cs : Array Value) (T : Nat), wr.heap[g]? = some (.cells cs T (0, 0)) → T ≠ 3 → (wr.setCell ⟨ba, 0, none⟩ (.int .i64 a2)).heap[g]? = some (.cells cs T (0, 0)) := fun g cs T hg h1 => (Below.heap_setCell wr ⟨ba, 0, none⟩ _ g (ty_ne hg h.a h1)).trans hg
 exact ⟨h.B.setCell (p := ⟨ba, 0, none⟩) h.la _, far _ _ _ h.b (by decide), blk_put h.a 0 _ rfl, far _ _ _ h.e (by decide), far _ _ _ h.p (by decide), far _ _ _ h.q (by decide), Kd.R_set h.R h.a (by decide) 0 _, far _ _ _ h.z (by decide), h.la, h.le, h.lp, h.lq, h.lr, h.qz⟩
theorem PT.setP (h : PT w wr bb ba be bp bq br A c l a e r t v s vp pts) (j : Nat) (u : Value) (r2 t2 v2 s2 : Int) (hj : ∀ (hb : wr.heap[bp]? = some (.cells #[.int .u32 r, .int .i64 t, .int .u64 v, .int .u64 s] 45 (0, 0))), (wr.setCell ⟨bp, j, none⟩ u).heap[bp]? = some (.cells #[.int .u32 r2, .int .i64 t2, .int .u64 v2, .int .u64 s2] 45 (0, 0))) :
  PT w (wr.setCell ⟨bp, j, none⟩ u) bb ba be bp bq br A c l a e r2 t2 v2 s2 vp pts := by
 have far : ∀ (g : Nat) (cs : Array Value) (T : Nat), wr.heap[g]? = some (.cells cs T (0, 0)) → T ≠ 45 → (wr.setCell ⟨bp, j, none⟩ u).heap[g]? = some (.cells cs T (0, 0)) := fun g cs T hg h1 => (Below.heap_setCell wr ⟨bp, j, none⟩ _ g (ty_ne hg h.p h1)).trans hg
 exact ⟨h.B.setCell (p := ⟨bp, j, none⟩) h.lp _, far _ _ _ h.b (by decide), far _ _ _ h.a (by decide), far _ _ _ h.e (by decide), hj h.p, far _ _ _ h.q (by decide), Kd.R_far (p := ⟨bp, j, none⟩) h.R (fun _ hk => hk) u, far _ _ _ h.z (by decide), h.la, h.le, h.lp, h.lq, h.lr, h.qz⟩
theorem PT.setR (h : PT w wr bb ba be bp bq br A c l a e r t v s vp pts) (x : Int) : PT w (wr.setCell ⟨bp, 0, none⟩ (.int .u32 x)) bb ba be bp bq br A c l a e x t v s vp pts := h.setP 0 _ x t v s (fun hb => blk_put hb 0 _ rfl)
theorem PT.setT (h : PT w wr bb ba be bp bq br A c l a e r t v s vp pts) (x : Int) : PT w (wr.setCell ⟨bp, 1, none⟩ (.int .i64 x)) bb ba be bp bq br A c l a e r x v s vp pts := h.setP 1 _ r x v s (fun hb => blk_put hb 1 _ rfl)
theorem PT.setV (h : PT w wr bb ba be bp bq br A c l a e r t v s vp pts) (x : Int) : PT w (wr.setCell ⟨bp, 2, none⟩ (.int .u64 x)) bb ba be bp bq br A c l a e r t x s vp pts := h.setP 2 _ r t x s (fun hb => blk_put hb 2 _ rfl)
theorem PT.setS (h : PT w wr bb ba be bp bq br A c l a e r t v s vp pts) (x : Int) : PT w (wr.setCell ⟨bp, 3, none⟩ (.int .u64 x)) bb ba be bp bq br A c l a e r t v x vp pts := h.setP 3 _ r t v x (fun hb => blk_put hb 3 _ rfl)
theorem PT.grow (h : PT w wr bb ba be bp bq br A c l a e r t v s vp pts) {w4 : World} {v1 : Value} {zs : List S45} (hR : Kd.R k45 45 w4 w.heap.size (fun k => k ≠ bp) v1 zs) (hg : wr.grownBy w4 vp.ownBlock) : PT w (w4.setCell ⟨bq, 3, none⟩ v1) bb ba be bp bq br A c l a e r t v s v1 zs := by
 have keep : ∀ (g : Nat) (cs : Array Value) (T : Nat), wr.heap[g]? = some (.cells cs T (0, 0)) → T ≠ 45 → w4.heap[g]? = some (.cells cs T (0, 0)) := fun g cs T hg2 h1 => (hg.block g (blk_lt hg2) (fun e => Kd.R_ne h.R hg2 (fun e => h1 e.symm) e)).trans hg2
 have hq4 := keep _ _ _ h.q (by decide)
 have far : ∀ (g : Nat) (cs : Array Value) (T : Nat), w4.heap[g]? = some (.cells cs T (0, 0)) → g ≠ bq → (w4.setCell ⟨bq, 3, none⟩ v1).heap[g]? = some (.cells cs T (0, 0)) := fun g cs T hg2 h1 => (Below.heap_setCell w4 ⟨bq, 3, none⟩ _ g h1).trans hg2
 have hp4 : w4.heap[bp]? = some (.cells #[.int .u32 r, .int .i64 t, .int .u64 v, .int .u64 s] 45 (0, 0)) := (hg.block bp (blk_lt h.p) (fun e => h.R.1 bp e.symm rfl)).trans h.p
 obtain ⟨inner, hown⟩ := Kd.R_own h.R
 exact ⟨(h.B.grown hg h.B.size (own_base hown)).setCell (p := ⟨bq, 3, none⟩) h.lq v1, far _ _ _ (keep _ _ _ h.b (by decide)) (ty_ne h.b h.q (by decide)), far _ _ _ (keep _ _ _ h.a (by decide)) (ty_ne h.a h.q (by decide)), far _ _ _ (keep _ _ _ h.e (by decide)) (ty_ne h.e h.q (by decide)), far _ _ _ hp4 (ty_ne h.p h.q (by decide)), blk_put hq4 3 _ rfl, Kd.R_set hR hq4 (by decide) 3 _, far _ _ _ (keep _ _ _ h.z (by decide)) (fun e => h.qz e.symm), h.la, h.le, h.lp, h.lq, h.lr, h.qz⟩
end
theorem zero4 {W : World} {br : Nat} (h : W.heap[br]? = some (.cells #[.int .i64 0, .int .u32 0, .slice none 0 0, .slice none 0 0] 29 (0, 0))) :
  ((((W.setCell ⟨br, 0, none⟩ (.int .i64 0)).setCell ⟨br, 1, none⟩ (.int .u32 0)).setCell ⟨br, 2, none⟩ (.slice none 0 0)).setCell ⟨br, 3, none⟩ (.slice none 0 0)).heap[br]? = some (.cells #[.int .i64 0, .int .u32 0, .slice none 0 0, .slice none 0 0] 29 (0, 0)) :=
 blk_put (cs := #[.int .i64 0, .int .u32 0, .slice none 0 0, .slice none 0 0]) (blk_put (cs := #[.int .i64 0, .int .u32 0, .slice none 0 0, .slice none 0 0]) (blk_put (cs := #[.int .i64 0, .int .u32 0, .slice none 0 0, .slice none 0 0]) (blk_put (cs := #[.int .i64 0, .int .u32 0, .slice none 0 0, .slice none 0 0]) h 0 _ rfl) 1 _ rfl) 2 _ rfl) 3 _ rfl
theorem zero4_below {B : Nat} {w W : World} {br : Nat} {u0 u1 u2 u3 : Value} (h : Below B w W) (hl : B ≤ br) : Below B w ((((W.setCell ⟨br, 0, none⟩ u0).setCell ⟨br, 1, none⟩ u1).setCell ⟨br, 2, none⟩ u2).setCell ⟨br, 3, none⟩ u3) :=
 (((h.setCell (p := ⟨br, 0, none⟩) hl _).setCell (p := ⟨br, 1, none⟩) hl _).setCell (p := ⟨br, 2, none⟩) hl _).setCell (p := ⟨br, 3, none⟩) hl _
theorem two_cells (W1 : World) (nd : Nat) (d : Int) :
  (((W1.drewN nd).alloc (.cells #[.int .i64 0] 3)).alloc (.cells #[.int .i64 0] 30)).cell? ⟨W1.heap.size, 0, none⟩ = some (.int .i64 0) ∧
  ((((W1.drewN nd).alloc (.cells #[.int .i64 0] 3)).alloc (.cells #[.int .i64 0] 30)).setCell ⟨W1.heap.size, 0, none⟩ (.int .i64 d)).cell? ⟨W1.heap.size + 1, 0, none⟩ = some (.int .i64 0) := by
 obtain ⟨V, hV⟩ : ∃ V, V = ((W1.drewN nd).alloc (.cells #[.int .i64 0] 3)).alloc (.cells #[.int .i64 0] 30) := ⟨_, rfl⟩
 have ha : V.heap[W1.heap.size]? = some (.cells #[.int .i64 0] 3 (0, 0)) := by
  have h0 : ((W1.drewN nd).alloc (.cells #[.int .i64 0] 3)).heap[W1.heap.size]? = some (.cells #[.int .i64 0] 3 (0, 0)) := heap_alloc_new (W1.drewN nd) _
  rw [hV]
  exact (Below.heap_alloc _ _ _ (blk_lt h0)).trans h0
 have he : V.heap[W1.heap.size + 1]? = some (.cells #[.int .i64 0] 30 (0, 0)) := by
  have h0 := heap_alloc_new ((W1.drewN nd).alloc (.cells #[.int .i64 0] 3)) (.cells #[.int .i64 0] 30)
  rw [World.size_alloc] at h0
  rw [hV]
  exact h0
 rw [← hV]
 have e2 : (V.setCell ⟨W1.heap.size, 0, none⟩ (.int .i64 d)).heap[W1.heap.size + 1]? = some (.cells #[.int .i64 0] 30 (0, 0)) := (Below.heap_setCell V ⟨W1.heap.size, 0, none⟩ _ _ (by show W1.heap.size + 1 ≠ W1.heap.size; omega)).trans he
 exact ⟨(blk_cell ha 0).trans rfl, (blk_cell e2 0).trans rfl⟩
theorem two_fin (W1 : World) (nd : Nat) (d e0 : Int) :
  ((((W1.drewN nd).alloc (.cells #[.int .i64 0] 3)).setCell ⟨W1.heap.size, 0, none⟩ (.int .i64 d)).alloc (.cells #[.int .i64 e0] 30)).heap[W1.heap.size]? = some (.cells #[.int .i64 d] 3 (0, 0)) ∧
  ((((W1.drewN nd).alloc (.cells #[.int .i64 0] 3)).setCell ⟨W1.heap.size, 0, none⟩ (.int .i64 d)).alloc (.cells #[.int .i64 e0] 30)).heap[W1.heap.size + 1]? = some (.cells #[.int .i64 e0] 30 (0, 0)) ∧
  Below W1.heap.size W1 ((((W1.drewN nd).alloc (.cells #[.int .i64 0] 3)).setCell ⟨W1.heap.size, 0, none⟩ (.int .i64 d)).alloc (.cells #[.int .i64 e0] 30)) ∧
  ((((W1.drewN nd).alloc (.cells #[.int .i64 0] 3)).setCell ⟨W1.heap.size, 0, none⟩ (.int .i64 d)).alloc (.cells #[.int .i64 e0] 30)).heap.size = W1.heap.size + 2 := by
 obtain ⟨V, hV⟩ : ∃ V, V = (W1.drewN nd).alloc (.cells #[.int .i64 0] 3) := ⟨_, rfl⟩
 have ha : V.heap[W1.heap.size]? = some (.cells #[.int .i64 0] 3 (0, 0)) := by rw [hV]; exact heap_alloc_new (W1.drewN nd) _
 have hB : Below W1.heap.size W1 V := by rw [hV]; exact below_alloc (pw_below_drewN (Below.refl _ _) nd) _
 have hs : V.heap.size = W1.heap.size + 1 := by rw [hV, World.size_alloc]; rfl
 rw [← hV]
 obtain ⟨U, hU⟩ : ∃ U, U = V.setCell ⟨W1.heap.size, 0, none⟩ (.int .i64 d) := ⟨_, rfl⟩
 have a2 : U.heap[W1.heap.size]? = some (.cells #[.int .i64 d] 3 (0, 0)) := by rw [hU]; exact blk_put ha 0 _ rfl
 have hs2 : U.heap.size = W1.heap.size + 1 := by rw [hU]; simp [World.setCell, hs]
 have hB2 : Below W1.heap.size W1 U := by rw [hU]; exact hB.setCell (p := ⟨W1.heap.size, 0, none⟩) (Nat.le_refl _) _
 rw [← hU]
 refine ⟨(Below.heap_alloc _ _ _ (blk_lt a2)).trans a2, ?_, below_alloc hB2 _, by rw [World.size_alloc, hs2]⟩
 have h0 := heap_alloc_new U (.cells #[.int .i64 e0] 30)
 rwa [hs2] at h0
theorem two_new (W1 : World) (nd : Nat) (d e0 : Int) :
  (((W1.drewN nd).alloc (.cells #[.int .i64 0] 3)).alloc (.cells #[.int .i64 0] 30)).frozen? ⟨W1.heap.size, 0, none⟩ = false ∧
  ((((W1.drewN nd).alloc (.cells #[.int .i64 0] 3)).alloc (.cells #[.int .i64 0] 30)).setCell ⟨W1.heap.size, 0, none⟩ (.int .i64 d)).frozen? ⟨W1.heap.size + 1, 0, none⟩ = false ∧
  (((((W1.drewN nd).alloc (.cells #[.int .i64 0] 3)).alloc (.cells #[.int .i64 0] 30)).setCell ⟨W1.heap.size, 0, none⟩ (.int .i64 d)).setCell ⟨W1.heap.size + 1, 0, none⟩ (.int .i64 e0)).heap[W1.heap.size]? = some (.cells #[.int .i64 d] 3 (0, 0)) ∧
  (((((W1.drewN nd).alloc (.cells #[.int .i64 0] 3)).alloc (.cells #[.int .i64 0] 30)).setCell ⟨W1.heap.size, 0, none⟩ (.int .i64 d)).setCell ⟨W1.heap.size + 1, 0, none⟩ (.int .i64 e0)).heap[W1.heap.size + 1]? = some (.cells #[.int .i64 e0] 30 (0, 0)) ∧
  Below W1.heap.size W1 (((((W1.drewN nd).alloc (.cells #[.int .i64 0] 3)).alloc (.cells #[.int .i64 0] 30)).setCell ⟨W1.heap.size, 0, none⟩ (.int .i64 d)).setCell ⟨W1.heap.size + 1, 0, none⟩ (.int .i64 e0)) ∧
  (((((W1.drewN nd).alloc (.cells #[.int .i64 0] 3)).alloc (.cells #[.int .i64 0] 30)).setCell ⟨W1.heap.size, 0, none⟩ (.int .i64 d)).setCell ⟨W1.heap.size + 1, 0, none⟩ (.int .i64 e0)).heap.size = W1.heap.size + 2 := by
 obtain ⟨V, hV⟩ : ∃ V, V = ((W1.drewN nd).alloc (.cells #[.int .i64 0] 3)).alloc (.cells #[.int .i64 0] 30) := ⟨_, rfl⟩
 have hs : V.heap.size = W1.heap.size + 2 := by rw [hV, World.size_alloc, World.size_alloc]; rfl
 have ha : V.heap[W1.heap.size]? = some (.cells #[.int .i64 0] 3 (0, 0)) := by
  have h0 : ((W1.drewN nd).alloc (.cells #[.int .i64 0] 3)).heap[W1.heap.size]? = some (.cells #[.int .i64 0] 3 (0, 0)) := heap_alloc_new (W1.drewN nd) _
  rw [hV]
  exact (Below.heap_alloc _ _ _ (blk_lt h0)).trans h0
 have he : V.heap[W1.heap.size + 1]? = some (.cells #[.int .i64 0] 30 (0, 0)) := by
  have h0 := heap_alloc_new ((W1.drewN nd).alloc (.cells #[.int .i64 0] 3)) (.cells #[.int .i64 0] 30)
  rw [World.size_alloc] at h0
  rw [hV]
  exact h0
 have hB : Below W1.heap.size W1 V := by rw [hV]; exact below_alloc (below_alloc (pw_below_drewN (Below.refl _ _) nd) _) _
 rw [← hV]
 have e2 : (V.setCell ⟨W1.heap.size, 0, none⟩ (.int .i64 d)).heap[W1.heap.size + 1]? = some (.cells #[.int .i64 0] 30 (0, 0)) := (Below.heap_setCell V ⟨W1.heap.size, 0, none⟩ _ _ (by show W1.heap.size + 1 ≠ W1.heap.size; omega)).trans he
 have a2 : (V.setCell ⟨W1.heap.size, 0, none⟩ (.int .i64 d)).heap[W1.heap.size]? = some (.cells #[.int .i64 d] 3 (0, 0)) := blk_put ha 0 _ rfl
 refine ⟨blk_frozen ha 0, blk_frozen e2 0, (Below.heap_setCell _ ⟨W1.heap.size + 1, 0, none⟩ _ _ (by show W1.heap.size ≠ W1.heap.size + 1; omega)).trans a2, blk_put e2 0 _ rfl, (hB.setCell (p := ⟨W1.heap.size, 0, none⟩) (Nat.le_refl _) _).setCell (p := ⟨W1.heap.size + 1, 0, none⟩) (Nat.le_succ _) _, ?_⟩
 simp [World.setCell, hs]
theorem low_p {B B' : Nat} {w w1 : World} (h : Below B' w w1) (hB : B ≤ B') : Below B w w1 := ⟨h.os, h.tape, h.output, h.size, fun k hk => h.block k (Nat.lt_of_lt_of_le hk hB)⟩
theorem five {a b e a' b' e' : Int} {c c' : List S52} {d d' : List S45} (h : some (a, b, c, d, e) = some (a', b', c', d', e')) : a = a' ∧ b = b' ∧ c = c' ∧ d = d' ∧ e = e' := by
 have h5 := Option.some.inj h
 exact ⟨congrArg Prod.fst h5, congrArg (fun z => z.2.1) h5, congrArg (fun z => z.2.2.1) h5, congrArg (fun z => z.2.2.2.1) h5, congrArg (fun z => z.2.2.2.2) h5⟩
theorem fill4 {W : World} {br : Nat} {Ap : Option Addr} {n cp : Nat} (h : W.heap[br]? = some (.cells #[.int .i64 0, .int .u32 0, .slice none 0 0, .slice none 0 0] 29 (0, 0))) :
  ((((W.setCell ⟨br, 0, none⟩ (.int .i64 2)).setCell ⟨br, 1, none⟩ (.int .u32 0)).setCell ⟨br, 2, none⟩ (.slice none 0 0)).setCell ⟨br, 3, none⟩ (.slice Ap n cp)).heap[br]? = some (.cells #[.int .i64 2, .int .u32 0, .slice none 0 0, .slice Ap n cp] 29 (0, 0)) :=
 blk_put (cs := #[.int .i64 2, .int .u32 0, .slice none 0 0, .slice none 0 0]) (blk_put (cs := #[.int .i64 2, .int .u32 0, .slice none 0 0, .slice none 0 0]) (blk_put (cs := #[.int .i64 2, .int .u32 0, .slice none 0 0, .slice none 0 0]) (blk_put (cs := #[.int .i64 0, .int .u32 0, .slice none 0 0, .slice none 0 0]) h 0 _ rfl) 1 _ rfl) 2 _ rfl) 3 _ rfl
theorem fill4_R {W : World} {base br : Nat} {ok : Nat → Prop} {v : Value} {xs : List S45} {cs : Array Value} {u0 u1 u2 u3 : Value} (h : Kd.R k45 45 W base ok v xs) (hb : W.heap[br]? = some (.cells cs 29 (0, 0))) :
  Kd.R k45 45 ((((W.setCell ⟨br, 0, none⟩ u0).setCell ⟨br, 1, none⟩ u1).setCell ⟨br, 2, none⟩ u2).setCell ⟨br, 3, none⟩ u3) base (fun _ => True) v xs := by
 refine Kd.R_mono (Kd.R_move (Kd.R_bound h) (fun k hk => ?_)) (fun _ _ => trivial)
 obtain ⟨h1, _, h3, q, hq, cells, hc⟩ := hk
 have hq' : q ∈ [45] := hq
 rw [List.mem_singleton.1 hq'] at hc
 have hne : k ≠ br := ty_ne hc hb (by decide)
 exact (Below.heap_setCell _ ⟨br, 3, none⟩ _ k hne).trans ((Below.heap_setCell _ ⟨br, 2, none⟩ _ k hne).trans ((Below.heap_setCell _ ⟨br, 1, none⟩ _ k hne).trans (Below.heap_setCell _ ⟨br, 0, none⟩ _ k hne)))
theorem few1_err {k : Nat} {b : List Int} {a e v a2 e2 : Int} (h : few1 k b a e = some (v, a2, e2)) (he : e ≠ 0) : e2 = e := by
 unfold few1 at h
 rw [if_neg he] at h
 exact (congrArg (fun z => z.2.2) (Option.some.inj h)).symm
theorem byte_at {W : World} {A : Option Addr} {xs : List Int} (h : Kd.C (Kd.int .u8) W A xs.length xs) {i : Nat} (hi : i < xs.length) : ∃ ad, A = some ad ∧ W.cell? (ad.add i) = some (.int .u8 (xs.getD i 0)) := by
 obtain ⟨ad, c, e, hl, hK, hcell⟩ := Kd.C_get h 0 (i : Int) (by omega) (by omega)
 rw [Int.toNat_natCast] at hK hcell
 have hK' : c = [.int .u8 (xs.getD i 0)] := hK
 subst hK'
 refine ⟨ad, e, ?_⟩
 have := hcell 0 _ rfl
 rw [show i * (Kd.int .u8).sz + 0 = i from Nat.mul_one i] at this
 exact this
theorem fold8 (l : List Int) (n j : Nat) (h : n + j < l.length) : ((l.drop n).take (j + 1)).foldl v8 0 = v8 (((l.drop n).take j).foldl v8 0) (l.getD (n + j) 0) := by
 have hl : j < (l.drop n).length := by rw [List.length_drop]; omega
 rw [List.take_succ_eq_append_getElem hl, List.foldl_append, List.foldl_cons, List.foldl_nil]
 congr 1
 rw [List.getElem_drop, List.getD_eq_getElem?_getD, List.getElem?_eq_getElem h]
 rfl
theorem cell_far4 {W : World} {be br : Nat} {e0 : Int} {u0 u1 u2 u3 : Value} (h : W.heap[be]? = some (.cells #[.int .i64 e0] 30 (0, 0))) (hne : be ≠ br) : ((((W.drew.setCell ⟨br, 0, none⟩ u0).setCell ⟨br, 1, none⟩ u1).setCell ⟨br, 2, none⟩ u2).setCell ⟨br, 3, none⟩ u3).cell? ⟨be, 0, none⟩ = some (.int .i64 e0) := by
 have hb : ((((W.drew.setCell ⟨br, 0, none⟩ u0).setCell ⟨br, 1, none⟩ u1).setCell ⟨br, 2, none⟩ u2).setCell ⟨br, 3, none⟩ u3).heap[be]? = some (.cells #[.int .i64 e0] 30 (0, 0)) :=
  (Below.heap_setCell _ ⟨br, 3, none⟩ _ be hne).trans ((Below.heap_setCell _ ⟨br, 2, none⟩ _ be hne).trans ((Below.heap_setCell _ ⟨br, 1, none⟩ _ be hne).trans ((Below.heap_setCell _ ⟨br, 0, none⟩ _ be hne).trans h)))
 exact (blk_cell hb 0).trans rfl
set_option maxRecDepth 20000 in
set_option maxHeartbeats 8000000 in
theorem recPoints_calls (k : Nat) (A : Option Addr) (c : Nat) (l : List Int) (r1 : Int) (r2 : Int) (r3 : List (S52)) (r4 : List (S45)) (r5 : Int) (w : World) (hr0 : Kd.C (Kd.int .u8) w A l.length l) (hc0 : l.length ≤ c) (h : recPoints k l = some (r1, r2, r3, r4, r5)) :
  Calls Tryd.prog 22 #[.slice A l.length c] w fun e w' => ∃ v2_ v3_ : Value, e = .returned (.tuple #[.agg #[.int .i64 r1, .int .u32 r2, v2_, v3_], .int .i64 r5]) ∧ Kd.R k52 52 w' w.heap.size (fun _ => True) v2_ r3 ∧ Kd.R k45 45 w' w.heap.size (fun _ => True) v3_ r4 ∧ Below w.heap.size w w' := by
 unfold recPoints at h
 cases hu : bits_Uvarint.f k l with
 | none => rw [hu] at h; cases h
 | some p0 =>
 obtain ⟨n, d, e0⟩ := p0
 rw [hu, Option.bind_some] at h
 simp only at h
 have HU := Lib.hid (fun (W : World) (hW : Below w.heap.size w W) => bits_Uvarint.calls k A c l n d e0 W (Kd.C_below hr0 hW) hc0 hu)
 have HC := Lib.hid (fun (W : World) (hW : Below w.heap.size w W) => Kd.C_below hr0 hW)
 have HCL := Lib.hid hc0
 have HH := Lib.hid h
 clear hr0 hc0 hu h
 go_enter Tryd.func22, Tryd.ntmps22
 go_upto_region 1 with fail
 obtain ⟨bb, hbb⟩ : ∃ bb, bb = w.heap.size := ⟨_, rfl⟩
 obtain ⟨br, hbr⟩ : ∃ br, br = w.heap.size + 1 := ⟨_, rfl⟩
 obtain ⟨W1, hW1⟩ : ∃ W1, W1 = (w.alloc (.cells #[.slice A l.length c] 22)).alloc (.cells #[.int .i64 0, .int .u32 0, .slice none 0 0, .slice none 0 0] 29) := ⟨_, rfl⟩
 have HB1 : Hid (Below w.heap.size w W1) := Lib.hid (by rw [hW1]; exact below_alloc (below_alloc (Below.refl _ _) _) _)
 have HS1 : Hid (W1.heap.size = w.heap.size + 2) := Lib.hid (by rw [hW1, World.size_alloc, World.size_alloc])
 have h1b : W1.heap[bb]? = some (.cells #[.slice A l.length c] 22 (0, 0)) := by
  have h0 : (w.alloc (.cells #[.slice A l.length c] 22)).heap[w.heap.size]? = some (.cells #[.slice A l.length c] 22 (0, 0)) := heap_alloc_new w _
  rw [hW1, hbb]
  exact (Below.heap_alloc _ _ _ (blk_lt h0)).trans h0
 have h1r : W1.heap[br]? = some (.cells #[.int .i64 0, .int .u32 0, .slice none 0 0, .slice none 0 0] 29 (0, 0)) := by
  have h0 := heap_alloc_new (w.alloc (.cells #[.slice A l.length c] 22)) (.cells #[.int .i64 0, .int .u32 0, .slice none 0 0, .slice none 0 0] 29)
  rw [hW1, hbr]
  rwa [World.size_alloc] at h0
 have H1 := Lib.hid (And.intro h1b h1r)
 have HLW : Hid (w.heap.size ≤ bb ∧ w.heap.size ≤ br ∧ bb < w.heap.size + 2 ∧ br < w.heap.size + 2) := Lib.hid (by omega)
 have c1 : W1.cell? ⟨bb, 0, none⟩ = some (.slice A l.length c) := (blk_cell h1b 0).trans rfl
 rw [← hW1, ← hbr, ← hbb]
 clear hW1 hbb hbr h1b h1r
 go_upto_region 2 with (go_at_call 38; go_loud (refine (HU.out W1 HB1.out).mono ?_); rintro e w2 ⟨rfl, hD⟩; obtain ⟨nd, rfl⟩ := hD; have hfa := (two_new W1 nd d e0).1; have hfb := (two_new W1 nd d e0).2.1; have hca := (two_cells W1 nd d).1; have hcb := (two_cells W1 nd d).2)
 obtain ⟨ba, hba⟩ : ∃ ba, ba = W1.heap.size := ⟨_, rfl⟩
 obtain ⟨be, hbe⟩ : ∃ be, be = W1.heap.size + 1 := ⟨_, rfl⟩
 obtain ⟨W3, hW3⟩ : ∃ W3, W3 = (((W1.drewN nd).alloc (.cells #[.int .i64 0] 3)).setCell ⟨W1.heap.size, 0, none⟩ (.int .i64 d)).alloc (.cells #[.int .i64 e0] 30) := ⟨_, rfl⟩
 obtain ⟨t3, t4, hB13, t6⟩ := two_fin W1 nd d e0
 rw [← hW3] at t3 t4 hB13 t6
 have HB3 : Hid (Below w.heap.size w W3) := Lib.hid (HB1.out.trans (low_p hB13 HB1.out.size))
 have h3b := (hB13.block bb (blk_lt H1.out.1)).trans H1.out.1
 have h3r := (hB13.block br (blk_lt H1.out.2)).trans H1.out.2
 have h3a : W3.heap[ba]? = some (.cells #[.int .i64 d] 3 (0, 0)) := by rw [hba]; exact t3
 have h3e : W3.heap[be]? = some (.cells #[.int .i64 e0] 30 (0, 0)) := by rw [hbe]; exact t4
 have H3 := Lib.hid (And.intro h3b (And.intro h3r (And.intro h3a h3e)))
 have HL3 : Hid (w.heap.size ≤ ba ∧ w.heap.size ≤ be ∧ W3.heap.size = w.heap.size + 4) := Lib.hid (by
  have := HS1.out
  refine ⟨by omega, by omega, ?_⟩
  omega)
 have ce : W3.cell? ⟨be, 0, none⟩ = some (.int .i64 e0) := (blk_cell h3e 0).trans rfl
 have hz0 := blk_frozen h3r 0
 have hz1 := blk_frozen h3r 1
 have hz2 := blk_frozen h3r 2
 have hz3 := blk_frozen h3r 3
 have hy0 : W3.cell? ⟨br, 0, none⟩ = some (.int .i64 0) := (blk_cell h3r 0).trans rfl
 have hy1 : W3.cell? ⟨br, 1, none⟩ = some (.int .u32 0) := (blk_cell h3r 1).trans rfl
 have hy2 : W3.cell? ⟨br, 2, none⟩ = some (.slice none 0 0) := (blk_cell h3r 2).trans rfl
 have hy3 : W3.cell? ⟨br, 3, none⟩ = some (.slice none 0 0) := (blk_cell h3r 3).trans rfl
 rw [← hW3, ← hbe, ← hba]
 clear hW3 hba hbe hB13 h3b h3r h3a h3e c1 hfa hfb hca hcb t3 t4 t6
 have hh := HH.out
 by_cases he0 : e0 = 0
 ·subst he0
  rw [if_pos rfl] at hh
  by_cases hn256 : n > 256
  ·rw [if_pos hn256] at hh
   obtain ⟨rfl, rfl, rfl, rfl, rfl⟩ := five hh
   clear hh
   go_wp2_with fail
   (try simp only [Exit.inBlock, Exit.then]); refine bodyPost_ret (results_ct rfl _ _ br 29 #[.int .i64 0, .int .u32 0, .slice none 0 0, .slice none 0 0] (0, 0) _ rfl (zero4 H3.out.2.1) Tryd.underlying29 rfl (by kernel_rfl)) rfl ?_
   exact ⟨_, _, rfl, Kd.R_nil _ _ _ _ _, Kd.R_nil _ _ _ _ _, zero4_below HB3.out HLW.out.2.1⟩
  ·rw [if_neg hn256] at hh
   by_cases hn0 : n = 0
   ·rw [if_pos hn0] at hh
    obtain ⟨rfl, rfl, rfl, rfl, rfl⟩ := five hh
    subst hn0
    clear hh hn256
    go_wp2_with fail
    (try simp only [Exit.inBlock, Exit.then]); refine bodyPost_ret (results_ct rfl _ _ br 29 #[.int .i64 0, .int .u32 0, .slice none 0 0, .slice none 0 0] (0, 0) _ rfl (zero4 H3.out.2.1) Tryd.underlying29 rfl (by kernel_rfl)) rfl ?_
    exact ⟨_, _, rfl, Kd.R_nil _ _ _ _ _, Kd.R_nil _ _ _ _ _, zero4_below HB3.out HLW.out.2.1⟩
   ·rw [if_neg hn0] at hh
    by_cases hnp : 0 ≤ n
    ·rw [if_pos hnp] at hh
     cases hl : recLoop k l n.toNat d 0 0 0 [] with
     | none => rw [hl] at hh; cases hh
     | some q =>
     rw [hl, Option.bind_some] at hh
     obtain ⟨m, rfl⟩ := Int.eq_ofNat_of_zero_le hnp
     rw [Int.toNat_natCast] at hl
     have hm256 : m ≤ 256 := by omega
     have hnn : ((m : Int) == 0) = false := by simp; omega
     have hwm : wrap64 (m : Int) = (m : Int) := by unfold wrap64; omega
     have HLP := Lib.hid hl
     have HQ := Lib.hid hh
     clear hl hh hn0 hnp ce hz0 hz1 hz2 hz3 hy0 hy1 hy2 hy3
     have ce : W3.cell? ⟨be, 0, none⟩ = some (.int .i64 0) := (blk_cell H3.out.2.2.2 0).trans rfl
     go_upto_region 12 with fail
     clear hwm hnn
     obtain ⟨bq, hbq⟩ : ∃ bq, bq = W3.heap.size := ⟨_, rfl⟩
     obtain ⟨bp, hbp⟩ : ∃ bp, bp = W3.heap.size + 1 := ⟨_, rfl⟩
     obtain ⟨W4, hW4⟩ : ∃ W4, W4 = (W3.alloc (.cells #[.int .i64 2, .int .u32 0, .slice none 0 0, .slice none 0 0] 29)).alloc (.cells #[.int .u32 0, .int .i64 0, .int .u64 0, .int .u64 0] 45) := ⟨_, rfl⟩
     have HS4 : Hid (PT w W4 bb ba be bp bq br A c l d 0 0 0 0 0 (.slice none 0 0) []) := Lib.hid (by
      have hB34 : Below W3.heap.size W3 W4 := by rw [hW4]; exact below_alloc (below_alloc (Below.refl _ _) _) _
      have h4q : W4.heap[bq]? = some (.cells #[.int .i64 2, .int .u32 0, .slice none 0 0, .slice none 0 0] 29 (0, 0)) := by
       have h0 : (W3.alloc (.cells #[.int .i64 2, .int .u32 0, .slice none 0 0, .slice none 0 0] 29)).heap[W3.heap.size]? = some (.cells #[.int .i64 2, .int .u32 0, .slice none 0 0, .slice none 0 0] 29 (0, 0)) := heap_alloc_new W3 _
       rw [hW4, hbq]
       exact (Below.heap_alloc _ _ _ (blk_lt h0)).trans h0
      have h4p : W4.heap[bp]? = some (.cells #[.int .u32 0, .int .i64 0, .int .u64 0, .int .u64 0] 45 (0, 0)) := by
       have h0 := heap_alloc_new (W3.alloc (.cells #[.int .i64 2, .int .u32 0, .slice none 0 0, .slice none 0 0] 29)) (.cells #[.int .u32 0, .int .i64 0, .int .u64 0, .int .u64 0] 45)
       rw [hW4, hbp]
       rwa [World.size_alloc] at h0
      obtain ⟨l1, l2, l3⟩ := HL3.out
      obtain ⟨l4, l5, l6, l7⟩ := HLW.out
      exact ⟨HB3.out.trans (low_p hB34 HB3.out.size), (hB34.block bb (blk_lt H3.out.1)).trans H3.out.1, (hB34.block ba (blk_lt H3.out.2.2.1)).trans H3.out.2.2.1, (hB34.block be (blk_lt H3.out.2.2.2)).trans H3.out.2.2.2, h4p, h4q, Kd.R_nil _ _ _ _ _, (hB34.block br (blk_lt H3.out.2.1)).trans H3.out.2.1, l1, l2, by omega, by omega, l5, by omega⟩)
     rw [← hW4, ← hbp, ← hbq]
     clear hW4 hbq hbp ce
     go_loopg [33] m (fun kq s33 wr => ∃ (i : Nat) (a r t v s : Int) (vp : Value) (pts : List S45), i + kq = m ∧ s33 = .int .i64 (i : Int) ∧ pts.length ≤ i ∧ Hid (PT w wr bb ba be bp bq br A c l a 0 r t v s vp pts) ∧ Hid (recLoop k l kq a r t s pts = some q))
     case atStart => exact ⟨0, d, 0, 0, 0, 0, .slice none 0 0, [], by omega, rfl, Nat.le_refl _, HS4.out, HLP.out⟩
     case round =>
      obtain ⟨i, a, r, t, v, s, vp, pts, hi, rfl, hpl, HS, HP⟩ := hrel
      by_cases hlt : i < m
      ·obtain ⟨gk2, hg2⟩ : ∃ gk2, gk = gk2 + 1 := ⟨gk - 1, by omega⟩
       have hpp := HP.out
       rw [hg2] at hpp
       unfold recLoop at hpp
       cases hst : recStep k l a r t s with
       | none => rw [hst] at hpp; cases hpp
       | some stp =>
       rw [hst, Option.bind_some] at hpp
       unfold recStep at hst
       cases hf1 : few1 k l a 0 with
       | none => rw [hf1] at hst; cases hst
       | some p1 =>
       obtain ⟨v1, a1, e1⟩ := p1
       rw [hf1, Option.bind_some] at hst
       simp only at hst
       cases hf2 : few1 k l a1 (errR e1 (refN r v1)) with
       | none => rw [hf2] at hst; cases hst
       | some p2 =>
       obtain ⟨v2, a2, e2⟩ := p2
       rw [hf2, Option.bind_some] at hst
       simp only at hst
       cases hf3 : few1 k l a2 e2 with
       | none => rw [hf3] at hst; cases hst
       | some p3 =>
       obtain ⟨v3, a3, e3⟩ := p3
       rw [hf3, Option.bind_some] at hst
       simp only at hst
       have HF1 := Lib.hid hf1
       have HF2 := Lib.hid hf2
       have HF3 := Lib.hid hf3
       have HST := Lib.hid hst
       have HPP := Lib.hid hpp
       clear hf1 hf2 hf3 hst hpp HP
       have HGK := Lib.hid hg2
       clear hg2
       obtain ⟨Ap, cp, hvp⟩ := Kd.R_slice HS.out.R
       subst hvp
       go_upto_region 13 with fail
       have q13 : wr.drew.cell? ⟨bp, 0, none⟩ = some (.int .u32 r) := (blk_cell HS.out.p 0).trans rfl
       refine start_ (n := 8) (S := fun w' => w'.cell? ⟨bp, 0, none⟩ = some (.int .u32 r)) (ds := []) #[false, false, false, false, false, false, false, false] (by kernel_rfl) rfl rfl (q13) (fun hHeld => ?_)
       refine pure_ (i := 0) (N := some 35) (v := ?_) (a' := ?_) #[true, false, false, false, false, false, false, false] rfl rfl (by kernel_rfl) (fun _ _ _ h => h) (Or.inl ⟨by rfl, ?_⟩) ?_ ?_
       rotate_left
       ·intro w'
        go_simp
        with_reducible rfl
       rotate_left
       ·simp only [Act.put, List.setIfInBounds_toArray, List.set_cons_zero, List.set_cons_succ, i64_w, i32_w]
        rfl
       refine pure_ (i := 3) (N := some 38) (v := ?_) (a' := ?_) #[true, false, false, true, false, false, false, false] rfl rfl (by kernel_rfl) (fun _ _ _ h => h) (Or.inl ⟨by rfl, ?_⟩) ?_ ?_
       rotate_left
       ·intro w'
        go_simp
        with_reducible rfl
       rotate_left
       ·simp only [Act.put, List.setIfInBounds_toArray, List.set_cons_zero, List.set_cons_succ, i64_w, i32_w]
        rfl
       refine take_ (i := 1) (N := some 36) (v := ?_) (a' := ?_) #[true, true, false, true, false, false, false, false] rfl rfl (by kernel_rfl) (fun _ _ _ h => h) (Or.inl ⟨by rfl, ?_⟩) hHeld ?_ ?_
       rotate_left
       ·intro w' s0
        go_simp
        with_reducible rfl
       rotate_left
       ·simp only [Act.put, List.setIfInBounds_toArray, List.set_cons_zero, List.set_cons_succ, i64_w, i32_w]
        rfl
       refine pure_ (i := 2) (N := some 37) (v := ?_) (a' := ?_) #[true, true, true, true, false, false, false, false] rfl rfl (by kernel_rfl) (fun _ _ _ h => h) (Or.inl ⟨by rfl, ?_⟩) ?_ ?_
       rotate_left
       ·intro w'
        go_simp
        with_reducible rfl
       rotate_left
       ·simp only [Act.put, List.setIfInBounds_toArray, List.set_cons_zero, List.set_cons_succ, i64_w, i32_w]
        rfl
       refine one_ (i := 4) (N := some 39) #[true, true, true, true, true, false, false, false] rfl rfl (by kernel_rfl) (by decide) (fun K hK => ?_)
       refine goesV_ Tryd.func40 (by kernel_rfl) rfl #[] #[.pointer (some ⟨be, 0, none⟩), .pointer (some ⟨bb, 0, none⟩), .pointer (some ⟨ba, 0, none⟩)] (by rfl) rfl rfl rfl y94_ ?_
       have hcall := few2_calls wr.drew bb ba be A c l a 0 v1 a1 e1 k HS.out.b HS.out.a HS.out.e (HC.out _ (below_drew HS.out.B)) HCL.out HF1.out
       refine hcall.mono ?_
       clear hcall
       rintro x5 w5 ⟨rfl, hA5, hE5, hM5⟩
       refine ⟨_, rfl, ?_⟩
       have hS5 := HS.out.few (w' := w5) hA5 hE5 ⟨hM5.os, hM5.tape, hM5.output, hM5.size, hM5.block⟩
       have hc5 : w5.cell? ⟨bp, 0, none⟩ = some (.int .u32 r) := (blk_cell hS5.p 0).trans rfl
       have HS5 := Lib.hid hS5
       clear hA5 hE5 hM5 hS5
       refine hK.out _ _ (hc5) (fun hHeld => ?_)
       clear hK K
       refine norm_ (a' := ?_) ?_ ?_
       rotate_left
       ·show Act.put _ (some 39) _ = _
        simp only [Act.put, List.setIfInBounds_toArray, List.set_cons_zero, List.set_cons_succ, i64_w, i32_w]
        rfl
       refine pure_ (i := 5) (N := some 40) (v := ?_) (a' := ?_) #[true, true, true, true, true, true, false, false] rfl rfl (by kernel_rfl) (fun _ _ _ h => h) (Or.inl ⟨by rfl, ?_⟩) ?_ ?_
       rotate_left
       ·intro w'
        go_simp
        with_reducible rfl
       rotate_left
       ·simp only [Act.put, List.setIfInBounds_toArray, List.set_cons_zero, List.set_cons_succ, i64_w, i32_w]
        rfl
       refine pure_ (i := 6) (N := some 41) (v := ?_) (a' := ?_) #[true, true, true, true, true, true, true, false] rfl rfl (by kernel_rfl) (fun _ _ _ h => h) (Or.inl ⟨by rfl, ?_⟩) ?_ ?_
       rotate_left
       ·intro w'
        go_simp
        with_reducible rfl
       rotate_left
       ·simp only [Act.put, List.setIfInBounds_toArray, List.set_cons_zero, List.set_cons_succ, i64_w, i32_w]
        rfl
       refine pure_ (i := 7) (N := some 10) (v := ?_) (a' := ?_) #[true, true, true, true, true, true, true, true] rfl rfl (by kernel_rfl) (fun _ _ _ h => h) (Or.inl ⟨by rfl, ?_⟩) ?_ ?_
       rotate_left
       ·intro w'
        go_simp
        with_reducible rfl
       rotate_left
       ·simp only [Act.put, List.setIfInBounds_toArray, List.set_cons_zero, List.set_cons_succ, i64_w, i32_w]
        rfl
       refine done_ (by kernel_rfl) ?_
       clear q13 hc5
       obtain ⟨rf, hrf⟩ : ∃ rf, rf = IntKind.u64.wrap (IntKind.u64.wrap r + IntKind.u64.wrap v1) := ⟨_, rfl⟩
       have HRF : Hid (refN r v1 = rf) := Lib.hid (by rw [hrf]; rfl)
       rw [← hrf]
       clear hrf
       have HST2 := HST.out
       have HF22 := HF2.out
       rw [HRF.out] at HST2 HF22
       have HST := Lib.hid HST2
       have HF2 := Lib.hid HF22
       clear HST2 HF22
       by_cases he1 : e1 = 0
       ·subst he1
        by_cases hr0 : rf = 0
        ·have hr0b : (rf == 0) = true := by simpa using hr0
         have hee : errR 0 rf = 1 := by unfold errR; rw [if_pos rfl, if_pos hr0]
         clear hr0
         have hf2 := HF2.out
         rw [hee] at hf2
         have HFE := Lib.hid hf2
         clear hf2 hee
         have qe5 : w5.cell? ⟨be, 0, none⟩ = some (.int .i64 0) := (blk_cell HS5.out.e 0).trans rfl
         have fe5 := blk_frozen HS5.out.e 0
         go_upto_region 16 with fail
         clear qe5 fe5
         obtain ⟨w5e, hw5e⟩ : ∃ W', W' = w5.setCell ⟨be, 0, none⟩ (.int .i64 1) := ⟨_, rfl⟩
         have HS5e : Hid (PT w w5e bb ba be bp bq br A c l a1 1 r t v s (.slice Ap pts.length cp) pts) := Lib.hid (by rw [hw5e]; exact HS5.out.setE 1)
         rw [← hw5e]
         clear hw5e
         have qp0 : w5e.cell? ⟨bp, 0, none⟩ = some (.int .u32 r) := (blk_cell HS5e.out.p 0).trans rfl
         have fp0 := blk_frozen HS5e.out.p 0
         go_upto_region 17 with fail
         clear qp0 fp0
         obtain ⟨wt0, hwt0⟩ : ∃ W', W' = w5e.setCell ⟨bp, 0, none⟩ (.int .u32 (rf % 4294967296)) := ⟨_, rfl⟩
         have HT0 : Hid (PT w wt0 bb ba be bp bq br A c l a1 1 (rf % 4294967296) t v s (.slice Ap pts.length cp) pts) := Lib.hid (by rw [hwt0]; exact HS5e.out.setR _)
         rw [← hwt0]
         clear hwt0
         have q17 : wt0.drew.cell? ⟨bp, 1, none⟩ = some (.int .i64 t) := (blk_cell HT0.out.p 1).trans rfl
         refine start_ (n := 9) (S := fun w' => w'.cell? ⟨bp, 1, none⟩ = some (.int .i64 t)) (ds := [8]) #[false, false, false, false, false, false, false, false, false] (by kernel_rfl) rfl rfl (q17) (fun hHeld => ?_)
         refine pure_ (i := 0) (N := some 55) (v := ?_) (a' := ?_) #[true, false, false, false, false, false, false, false, false] rfl rfl (by kernel_rfl) (fun _ _ _ h => h) (Or.inl ⟨by rfl, ?_⟩) ?_ ?_
         rotate_left
         ·intro w'
          go_simp
          with_reducible rfl
         rotate_left
         ·simp only [Act.put, List.setIfInBounds_toArray, List.set_cons_zero, List.set_cons_succ, i64_w, i32_w]
          rfl
         refine pure_ (i := 1) (N := some 56) (v := ?_) (a' := ?_) #[true, true, false, false, false, false, false, false, false] rfl rfl (by kernel_rfl) (fun _ _ _ h => h) (Or.inl ⟨by rfl, ?_⟩) ?_ ?_
         rotate_left
         ·intro w'
          go_simp
          with_reducible rfl
         rotate_left
         ·simp only [Act.put, List.setIfInBounds_toArray, List.set_cons_zero, List.set_cons_succ, i64_w, i32_w]
          rfl
         refine pure_ (i := 3) (N := some 58) (v := ?_) (a' := ?_) #[true, true, false, true, false, false, false, false, false] rfl rfl (by kernel_rfl) (fun _ _ _ h => h) (Or.inl ⟨by rfl, ?_⟩) ?_ ?_
         rotate_left
         ·intro w'
          go_simp
          with_reducible rfl
         rotate_left
         ·simp only [Act.put, List.setIfInBounds_toArray, List.set_cons_zero, List.set_cons_succ, i64_w, i32_w]
          rfl
         refine take_ (i := 2) (N := some 57) (v := ?_) (a' := ?_) #[true, true, true, true, false, false, false, false, false] rfl rfl (by kernel_rfl) (fun _ _ _ h => h) (Or.inl ⟨by rfl, ?_⟩) hHeld ?_ ?_
         rotate_left
         ·intro w' s0
          go_simp
          with_reducible rfl
         rotate_left
         ·simp only [Act.put, List.setIfInBounds_toArray, List.set_cons_zero, List.set_cons_succ, i64_w, i32_w]
          rfl
         refine one_ (i := 4) (N := some 59) #[true, true, true, true, true, false, false, false, false] rfl rfl (by kernel_rfl) (by decide) (fun K hK => ?_)
         refine goesV_ Tryd.func40 (by kernel_rfl) rfl #[] #[.pointer (some ⟨be, 0, none⟩), .pointer (some ⟨bb, 0, none⟩), .pointer (some ⟨ba, 0, none⟩)] (by rfl) rfl rfl rfl y94_ ?_
         have hcall := few2_calls wt0.drew bb ba be A c l a1 1 v2 a2 e2 k HT0.out.b HT0.out.a HT0.out.e (HC.out _ (below_drew HT0.out.B)) HCL.out HFE.out
         refine hcall.mono ?_
         clear hcall
         rintro x7 w7 ⟨rfl, hA7, hE7, hM7⟩
         refine ⟨_, rfl, ?_⟩
         have hS7 := HT0.out.few (w' := w7) hA7 hE7 ⟨hM7.os, hM7.tape, hM7.output, hM7.size, hM7.block⟩
         have hc7 : w7.cell? ⟨bp, 1, none⟩ = some (.int .i64 t) := (blk_cell hS7.p 1).trans rfl
         have hf7 := blk_frozen hS7.p 1
         have HS7 := Lib.hid hS7
         clear hA7 hE7 hM7 hS7
         refine hK.out _ _ (hc7) (fun hHeld => ?_)
         clear hK K
         refine norm_ (a' := ?_) ?_ ?_
         rotate_left
         ·show Act.put _ (some 59) _ = _
          simp only [Act.put, List.setIfInBounds_toArray, List.set_cons_zero, List.set_cons_succ, i64_w, i32_w]
          rfl
         refine pure_ (i := 5) (N := some 60) (v := ?_) (a' := ?_) #[true, true, true, true, true, true, false, false, false] rfl rfl (by kernel_rfl) (fun _ _ _ h => h) (Or.inl ⟨by rfl, ?_⟩) ?_ ?_
         rotate_left
         ·intro w'
          go_simp
          with_reducible rfl
         rotate_left
         ·simp only [Act.put, List.setIfInBounds_toArray, List.set_cons_zero, List.set_cons_succ, i64_w, i32_w]
          rfl
         refine pure_ (i := 6) (N := some 61) (v := ?_) (a' := ?_) #[true, true, true, true, true, true, true, false, false] rfl rfl (by kernel_rfl) (fun _ _ _ h => h) (Or.inl ⟨by rfl, ?_⟩) ?_ ?_
         rotate_left
         ·intro w'
          go_simp
          with_reducible rfl
         rotate_left
         ·simp only [Act.put, List.setIfInBounds_toArray, List.set_cons_zero, List.set_cons_succ, i64_w, i32_w]
          rfl
         refine pure_ (i := 7) (N := some 62) (v := ?_) (a' := ?_) #[true, true, true, true, true, true, true, true, false] rfl rfl (by kernel_rfl) (fun _ _ _ h => h) (Or.inl ⟨by rfl, ?_⟩) ?_ ?_
         rotate_left
         ·intro w'
          go_simp
          with_reducible rfl
         rotate_left
         ·simp only [Act.put, List.setIfInBounds_toArray, List.set_cons_zero, List.set_cons_succ, i64_w, i32_w]
          rfl
         refine last_ (i := 8) (N := none) #[true, true, true, true, true, true, true, true, true] rfl rfl (by kernel_rfl) (by decide) (fun K hK => ?_)
         refine skip_ (w1 := ?_) (by rfl) rfl ?_ ?_
         rotate_left
         ·go_simp
          rfl
         refine hK.out _ _ ?_
         clear hK K
         refine done_ (by kernel_rfl) ?_
         clear q17 hc7 hf7
         obtain ⟨w7b, hw7b⟩ : ∃ W', W' = w7.setCell ⟨bp, 1, none⟩ (.int .i64 (wrap64 (t + v2))) := ⟨_, rfl⟩
         have HS7b : Hid (PT w w7b bb ba be bp bq br A c l a2 e2 (rf % 4294967296) (wrap64 (t + v2)) v s (.slice Ap pts.length cp) pts) := Lib.hid (by rw [hw7b]; exact HS7.out.setT _)
         rw [← hw7b]
         clear hw7b
         go_upto_region 18 with fail
         have q18 : w7b.drew.cell? ⟨bp, 3, none⟩ = some (.int .u64 s) := (blk_cell HS7b.out.p 3).trans rfl
         refine start_ (n := 10) (S := fun w' => w'.cell? ⟨bp, 3, none⟩ = some (.int .u64 s)) (ds := [9]) #[false, false, false, false, false, false, false, false, false, false] (by kernel_rfl) rfl rfl (q18) (fun hHeld => ?_)
         refine pure_ (i := 0) (N := some 63) (v := ?_) (a' := ?_) #[true, false, false, false, false, false, false, false, false, false] rfl rfl (by kernel_rfl) (fun _ _ _ h => h) (Or.inl ⟨by rfl, ?_⟩) ?_ ?_
         rotate_left
         ·intro w'
          go_simp
          with_reducible rfl
         rotate_left
         ·simp only [Act.put, List.setIfInBounds_toArray, List.set_cons_zero, List.set_cons_succ, i64_w, i32_w]
          rfl
         refine pure_ (i := 1) (N := some 64) (v := ?_) (a' := ?_) #[true, true, false, false, false, false, false, false, false, false] rfl rfl (by kernel_rfl) (fun _ _ _ h => h) (Or.inl ⟨by rfl, ?_⟩) ?_ ?_
         rotate_left
         ·intro w'
          go_simp
          with_reducible rfl
         rotate_left
         ·simp only [Act.put, List.setIfInBounds_toArray, List.set_cons_zero, List.set_cons_succ, i64_w, i32_w]
          rfl
         refine pure_ (i := 3) (N := some 66) (v := ?_) (a' := ?_) #[true, true, false, true, false, false, false, false, false, false] rfl rfl (by kernel_rfl) (fun _ _ _ h => h) (Or.inl ⟨by rfl, ?_⟩) ?_ ?_
         rotate_left
         ·intro w'
          go_simp
          with_reducible rfl
         rotate_left
         ·simp only [Act.put, List.setIfInBounds_toArray, List.set_cons_zero, List.set_cons_succ, i64_w, i32_w]
          rfl
         refine take_ (i := 2) (N := some 65) (v := ?_) (a' := ?_) #[true, true, true, true, false, false, false, false, false, false] rfl rfl (by kernel_rfl) (fun _ _ _ h => h) (Or.inl ⟨by rfl, ?_⟩) hHeld ?_ ?_
         rotate_left
         ·intro w' s0
          go_simp
          with_reducible rfl
         rotate_left
         ·simp only [Act.put, List.setIfInBounds_toArray, List.set_cons_zero, List.set_cons_succ, i64_w, i32_w]
          rfl
         refine one_ (i := 4) (N := some 67) #[true, true, true, true, true, false, false, false, false, false] rfl rfl (by kernel_rfl) (by decide) (fun K hK => ?_)
         refine goesV_ Tryd.func40 (by kernel_rfl) rfl #[] #[.pointer (some ⟨be, 0, none⟩), .pointer (some ⟨bb, 0, none⟩), .pointer (some ⟨ba, 0, none⟩)] (by rfl) rfl rfl rfl y94_ ?_
         have hcall := few2_calls w7b.drew bb ba be A c l a2 e2 v3 a3 e3 k HS7b.out.b HS7b.out.a HS7b.out.e (HC.out _ (below_drew HS7b.out.B)) HCL.out HF3.out
         refine hcall.mono ?_
         clear hcall
         rintro x8 w8 ⟨rfl, hA8, hE8, hM8⟩
         refine ⟨_, rfl, ?_⟩
         have hS8 := HS7b.out.few (w' := w8) hA8 hE8 ⟨hM8.os, hM8.tape, hM8.output, hM8.size, hM8.block⟩
         have hc8 : w8.cell? ⟨bp, 3, none⟩ = some (.int .u64 s) := (blk_cell hS8.p 3).trans rfl
         have hf8 := blk_frozen hS8.p 3
         have HS8 := Lib.hid hS8
         clear hA8 hE8 hM8 hS8
         refine hK.out _ _ (hc8) (fun hHeld => ?_)
         clear hK K
         refine norm_ (a' := ?_) ?_ ?_
         rotate_left
         ·show Act.put _ (some 67) _ = _
          simp only [Act.put, List.setIfInBounds_toArray, List.set_cons_zero, List.set_cons_succ, i64_w, i32_w]
          rfl
         refine pure_ (i := 5) (N := some 68) (v := ?_) (a' := ?_) #[true, true, true, true, true, true, false, false, false, false] rfl rfl (by kernel_rfl) (fun _ _ _ h => h) (Or.inl ⟨by rfl, ?_⟩) ?_ ?_
         rotate_left
         ·intro w'
          go_simp
          with_reducible rfl
         rotate_left
         ·simp only [Act.put, List.setIfInBounds_toArray, List.set_cons_zero, List.set_cons_succ, i64_w, i32_w]
          rfl
         refine pure_ (i := 6) (N := some 69) (v := ?_) (a' := ?_) #[true, true, true, true, true, true, true, false, false, false] rfl rfl (by kernel_rfl) (fun _ _ _ h => h) (Or.inl ⟨by rfl, ?_⟩) ?_ ?_
         rotate_left
         ·intro w'
          go_simp
          with_reducible rfl
         rotate_left
         ·simp only [Act.put, List.setIfInBounds_toArray, List.set_cons_zero, List.set_cons_succ, i64_w, i32_w]
          rfl
         refine pure_ (i := 7) (N := some 70) (v := ?_) (a' := ?_) #[true, true, true, true, true, true, true, true, false, false] rfl rfl (by kernel_rfl) (fun _ _ _ h => h) (Or.inl ⟨by rfl, ?_⟩) ?_ ?_
         rotate_left
         ·intro w'
          go_simp
          with_reducible rfl
         rotate_left
         ·simp only [Act.put, List.setIfInBounds_toArray, List.set_cons_zero, List.set_cons_succ, i64_w, i32_w]
          rfl
         refine pure_ (i := 8) (N := some 71) (v := ?_) (a' := ?_) #[true, true, true, true, true, true, true, true, true, false] rfl rfl (by kernel_rfl) (fun _ _ _ h => h) (Or.inl ⟨by rfl, ?_⟩) ?_ ?_
         rotate_left
         ·intro w'
          go_simp
          with_reducible rfl
         rotate_left
         ·simp only [Act.put, List.setIfInBounds_toArray, List.set_cons_zero, List.set_cons_succ, i64_w, i32_w]
          rfl
         refine last_ (i := 9) (N := none) #[true, true, true, true, true, true, true, true, true, true] rfl rfl (by kernel_rfl) (by decide) (fun K hK => ?_)
         refine skip_ (w1 := ?_) (by rfl) rfl ?_ ?_
         rotate_left
         ·go_simp
          rfl
         refine hK.out _ _ ?_
         clear hK K
         refine done_ (by kernel_rfl) ?_
         clear q18 hc8 hf8
         obtain ⟨w8b, hw8b⟩ : ∃ W', W' = w8.setCell ⟨bp, 3, none⟩ (.int .u64 (IntKind.u64.wrap (s + IntKind.u64.wrap v3))) := ⟨_, rfl⟩
         have HS8b : Hid (PT w w8b bb ba be bp bq br A c l a3 e3 (rf % 4294967296) (wrap64 (t + v2)) v (IntKind.u64.wrap (s + IntKind.u64.wrap v3)) (.slice Ap pts.length cp) pts) := Lib.hid (by rw [hw8b]; exact HS8.out.setS _)
         rw [← hw8b]
         clear hw8b
         have hne3 : e3 ≠ 0 := by
          have h7 := few1_err HFE.out (by decide)
          have h8 := few1_err HF3.out (by rw [h7]; exact (by decide))
          rw [h8, h7]
          exact (by decide)
         have hb3 : (e3 == 0) = false := by simpa using hne3
         have hb4 : (e3 != 0) = true := bne_iff_ne.2 hne3
         have her : errN (errS e3 (seqN s v3)) (wrap64 ((l.length : Int) - a3)) = e3 := by unfold errN errS; rw [if_neg hne3, if_neg hne3]
         have hst := HST.out
         rw [her] at hst
         rw [if_neg hne3] at hst
         obtain rfl := Option.some.inj hst
         have hpp := HPP.out
         simp only at hpp
         rw [if_neg hne3] at hpp
         obtain rfl := Option.some.inj hpp
         have hh := HQ.out
         simp only at hh
         rw [if_neg hne3] at hh
         obtain ⟨rfl, rfl, rfl, rfl, rfl⟩ := five hh
         clear hst hpp hh her
         have qe : w8b.cell? ⟨be, 0, none⟩ = some (.int .i64 e3) := (blk_cell HS8b.out.e 0).trans rfl
         go_upto_region 24 with fail
         clear qe
         have q24 : w8b.drew.cell? ⟨be, 0, none⟩ = some (.int .i64 e3) := (blk_cell HS8b.out.e 0).trans rfl
         have hz0 := blk_frozen HS8b.out.z 0
         have hz1 := blk_frozen HS8b.out.z 1
         have hz2 := blk_frozen HS8b.out.z 2
         have hz3 := blk_frozen HS8b.out.z 3
         have hy0 : w8b.cell? ⟨br, 0, none⟩ = some (.int .i64 0) := (blk_cell HS8b.out.z 0).trans rfl
         have hy1 : w8b.cell? ⟨br, 1, none⟩ = some (.int .u32 0) := (blk_cell HS8b.out.z 1).trans rfl
         have hy2 : w8b.cell? ⟨br, 2, none⟩ = some (.slice none 0 0) := (blk_cell HS8b.out.z 2).trans rfl
         have hy3 : w8b.cell? ⟨br, 3, none⟩ = some (.slice none 0 0) := (blk_cell HS8b.out.z 3).trans rfl
         refine start_ (n := 4) (S := fun w' => w'.cell? ⟨be, 0, none⟩ = some (.int .i64 e3)) (ds := []) #[false, false, false, false] (by kernel_rfl) rfl rfl (q24) (fun hHeld => ?_)
         refine pure_ (i := 0) (N := some 91) (v := ?_) (a' := ?_) #[true, false, false, false] rfl rfl (by kernel_rfl) (fun _ _ _ h => h) (Or.inl ⟨by rfl, ?_⟩) ?_ ?_
         rotate_left
         ·intro w'
          go_simp
          with_reducible rfl
         rotate_left
         ·simp only [Act.put, List.setIfInBounds_toArray, List.set_cons_zero, List.set_cons_succ, i64_w, i32_w]
          rfl
         refine take_ (i := 1) (N := some 92) (v := ?_) (a' := ?_) #[true, true, false, false] rfl rfl (by kernel_rfl) (fun _ _ _ h => h) (Or.inl ⟨by rfl, ?_⟩) hHeld ?_ ?_
         rotate_left
         ·intro w' s0
          go_simp
          with_reducible rfl
         rotate_left
         ·simp only [Act.put, List.setIfInBounds_toArray, List.set_cons_zero, List.set_cons_succ, i64_w, i32_w]
          rfl
         refine one_ (i := 2) (N := none) #[true, true, true, false] rfl rfl (by kernel_rfl) (by decide) (fun K hK => ?_)
         refine skip_ (w1 := ?_) (by rfl) rfl ?_ ?_
         rotate_left
         ·go_simp
          rfl
         refine hK.out _ _ ((cell_far4 HS8b.out.e (ty_ne HS8b.out.e HS8b.out.z (by decide)) : _)) (fun hHeld => ?_)
         clear hK K
         refine pure_ (i := 3) (N := some 3) (v := ?_) (a' := ?_) #[true, true, true, true] rfl rfl (by kernel_rfl) (fun _ _ _ h => h) (Or.inl ⟨by rfl, ?_⟩) ?_ ?_
         rotate_left
         ·intro w'
          go_simp
          with_reducible rfl
         rotate_left
         ·simp only [Act.put, List.setIfInBounds_toArray, List.set_cons_zero, List.set_cons_succ, i64_w, i32_w]
          rfl
         refine done_ (by kernel_rfl) ?_
         go_wp2
         (try simp only [Exit.inBlock, Exit.then]); refine bodyPost_ret (results_ct rfl _ _ br 29 #[.int .i64 0, .int .u32 0, .slice none 0 0, .slice none 0 0] (0, 0) _ rfl (zero4 HS8b.out.z) Tryd.underlying29 rfl (by kernel_rfl)) rfl ?_
         exact ⟨_, _, rfl, Kd.R_nil _ _ _ _ _, Kd.R_nil _ _ _ _ _, zero4_below (below_drew HS8b.out.B) HS8b.out.lr⟩
        ·have hr0b : (rf == 0) = false := by simpa using hr0
         by_cases hrm : rf > 4294967295
         ·have hee : errR 0 rf = 1 := by unfold errR; rw [if_pos rfl, if_neg hr0, if_pos hrm]
          have hf2 := HF2.out
          rw [hee] at hf2
          have HFE := Lib.hid hf2
          clear hf2 hee
          have qe5 : w5.cell? ⟨be, 0, none⟩ = some (.int .i64 0) := (blk_cell HS5.out.e 0).trans rfl
          have fe5 := blk_frozen HS5.out.e 0
          go_upto_region 16 with fail
          clear qe5 fe5
          obtain ⟨w5e, hw5e⟩ : ∃ W', W' = w5.setCell ⟨be, 0, none⟩ (.int .i64 1) := ⟨_, rfl⟩
          have HS5e : Hid (PT w w5e bb ba be bp bq br A c l a1 1 r t v s (.slice Ap pts.length cp) pts) := Lib.hid (by rw [hw5e]; exact HS5.out.setE 1)
          rw [← hw5e]
          clear hw5e
          have qp0 : w5e.cell? ⟨bp, 0, none⟩ = some (.int .u32 r) := (blk_cell HS5e.out.p 0).trans rfl
          have fp0 := blk_frozen HS5e.out.p 0
          go_upto_region 17 with fail
          clear qp0 fp0
          obtain ⟨wt0, hwt0⟩ : ∃ W', W' = w5e.setCell ⟨bp, 0, none⟩ (.int .u32 (rf % 4294967296)) := ⟨_, rfl⟩
          have HT0 : Hid (PT w wt0 bb ba be bp bq br A c l a1 1 (rf % 4294967296) t v s (.slice Ap pts.length cp) pts) := Lib.hid (by rw [hwt0]; exact HS5e.out.setR _)
          rw [← hwt0]
          clear hwt0
          have q17 : wt0.drew.cell? ⟨bp, 1, none⟩ = some (.int .i64 t) := (blk_cell HT0.out.p 1).trans rfl
          refine start_ (n := 9) (S := fun w' => w'.cell? ⟨bp, 1, none⟩ = some (.int .i64 t)) (ds := [8]) #[false, false, false, false, false, false, false, false, false] (by kernel_rfl) rfl rfl (q17) (fun hHeld => ?_)
          refine pure_ (i := 0) (N := some 55) (v := ?_) (a' := ?_) #[true, false, false, false, false, false, false, false, false] rfl rfl (by kernel_rfl) (fun _ _ _ h => h) (Or.inl ⟨by rfl, ?_⟩) ?_ ?_
          rotate_left
          ·intro w'
           go_simp
           with_reducible rfl
          rotate_left
          ·simp only [Act.put, List.setIfInBounds_toArray, List.set_cons_zero, List.set_cons_succ, i64_w, i32_w]
           rfl
          refine pure_ (i := 1) (N := some 56) (v := ?_) (a' := ?_) #[true, true, false, false, false, false, false, false, false] rfl rfl (by kernel_rfl) (fun _ _ _ h => h) (Or.inl ⟨by rfl, ?_⟩) ?_ ?_
          rotate_left
          ·intro w'
           go_simp
           with_reducible rfl
          rotate_left
          ·simp only [Act.put, List.setIfInBounds_toArray, List.set_cons_zero, List.set_cons_succ, i64_w, i32_w]
           rfl
          refine pure_ (i := 3) (N := some 58) (v := ?_) (a' := ?_) #[true, true, false, true, false, false, false, false, false] rfl rfl (by kernel_rfl) (fun _ _ _ h => h) (Or.inl ⟨by rfl, ?_⟩) ?_ ?_
          rotate_left
          ·intro w'
           go_simp
           with_reducible rfl
          rotate_left
          ·simp only [Act.put, List.setIfInBounds_toArray, List.set_cons_zero, List.set_cons_succ, i64_w, i32_w]
           rfl
          refine take_ (i := 2) (N := some 57) (v := ?_) (a' := ?_) #[true, true, true, true, false, false, false, false, false] rfl rfl (by kernel_rfl) (fun _ _ _ h => h) (Or.inl ⟨by rfl, ?_⟩) hHeld ?_ ?_
          rotate_left
          ·intro w' s0
           go_simp
           with_reducible rfl
          rotate_left
          ·simp only [Act.put, List.setIfInBounds_toArray, List.set_cons_zero, List.set_cons_succ, i64_w, i32_w]
           rfl
          refine one_ (i := 4) (N := some 59) #[true, true, true, true, true, false, false, false, false] rfl rfl (by kernel_rfl) (by decide) (fun K hK => ?_)
          refine goesV_ Tryd.func40 (by kernel_rfl) rfl #[] #[.pointer (some ⟨be, 0, none⟩), .pointer (some ⟨bb, 0, none⟩), .pointer (some ⟨ba, 0, none⟩)] (by rfl) rfl rfl rfl y94_ ?_
          have hcall := few2_calls wt0.drew bb ba be A c l a1 1 v2 a2 e2 k HT0.out.b HT0.out.a HT0.out.e (HC.out _ (below_drew HT0.out.B)) HCL.out HFE.out
          refine hcall.mono ?_
          clear hcall
          rintro x7 w7 ⟨rfl, hA7, hE7, hM7⟩
          refine ⟨_, rfl, ?_⟩
          have hS7 := HT0.out.few (w' := w7) hA7 hE7 ⟨hM7.os, hM7.tape, hM7.output, hM7.size, hM7.block⟩
          have hc7 : w7.cell? ⟨bp, 1, none⟩ = some (.int .i64 t) := (blk_cell hS7.p 1).trans rfl
          have hf7 := blk_frozen hS7.p 1
          have HS7 := Lib.hid hS7
          clear hA7 hE7 hM7 hS7
          refine hK.out _ _ (hc7) (fun hHeld => ?_)
          clear hK K
          refine norm_ (a' := ?_) ?_ ?_
          rotate_left
          ·show Act.put _ (some 59) _ = _
           simp only [Act.put, List.setIfInBounds_toArray, List.set_cons_zero, List.set_cons_succ, i64_w, i32_w]
           rfl
          refine pure_ (i := 5) (N := some 60) (v := ?_) (a' := ?_) #[true, true, true, true, true, true, false, false, false] rfl rfl (by kernel_rfl) (fun _ _ _ h => h) (Or.inl ⟨by rfl, ?_⟩) ?_ ?_
          rotate_left
          ·intro w'
           go_simp
           with_reducible rfl
          rotate_left
          ·simp only [Act.put, List.setIfInBounds_toArray, List.set_cons_zero, List.set_cons_succ, i64_w, i32_w]
           rfl
          refine pure_ (i := 6) (N := some 61) (v := ?_) (a' := ?_) #[true, true, true, true, true, true, true, false, false] rfl rfl (by kernel_rfl) (fun _ _ _ h => h) (Or.inl ⟨by rfl, ?_⟩) ?_ ?_
          rotate_left
          ·intro w'
           go_simp
           with_reducible rfl
          rotate_left
          ·simp only [Act.put, List.setIfInBounds_toArray, List.set_cons_zero, List.set_cons_succ, i64_w, i32_w]
           rfl
          refine pure_ (i := 7) (N := some 62) (v := ?_) (a' := ?_) #[true, true, true, true, true, true, true, true, false] rfl rfl (by kernel_rfl) (fun _ _ _ h => h) (Or.inl ⟨by rfl, ?_⟩) ?_ ?_
          rotate_left
          ·intro w'
           go_simp
           with_reducible rfl
          rotate_left
          ·simp only [Act.put, List.setIfInBounds_toArray, List.set_cons_zero, List.set_cons_succ, i64_w, i32_w]
           rfl
          refine last_ (i := 8) (N := none) #[true, true, true, true, true, true, true, true, true] rfl rfl (by kernel_rfl) (by decide) (fun K hK => ?_)
          refine skip_ (w1 := ?_) (by rfl) rfl ?_ ?_
          rotate_left
          ·go_simp
           rfl
          refine hK.out _ _ ?_
          clear hK K
          refine done_ (by kernel_rfl) ?_
          clear q17 hc7 hf7
          obtain ⟨w7b, hw7b⟩ : ∃ W', W' = w7.setCell ⟨bp, 1, none⟩ (.int .i64 (wrap64 (t + v2))) := ⟨_, rfl⟩
          have HS7b : Hid (PT w w7b bb ba be bp bq br A c l a2 e2 (rf % 4294967296) (wrap64 (t + v2)) v s (.slice Ap pts.length cp) pts) := Lib.hid (by rw [hw7b]; exact HS7.out.setT _)
          rw [← hw7b]
          clear hw7b
          go_upto_region 18 with fail
          have q18 : w7b.drew.cell? ⟨bp, 3, none⟩ = some (.int .u64 s) := (blk_cell HS7b.out.p 3).trans rfl
          refine start_ (n := 10) (S := fun w' => w'.cell? ⟨bp, 3, none⟩ = some (.int .u64 s)) (ds := [9]) #[false, false, false, false, false, false, false, false, false, false] (by kernel_rfl) rfl rfl (q18) (fun hHeld => ?_)
          refine pure_ (i := 0) (N := some 63) (v := ?_) (a' := ?_) #[true, false, false, false, false, false, false, false, false, false] rfl rfl (by kernel_rfl) (fun _ _ _ h => h) (Or.inl ⟨by rfl, ?_⟩) ?_ ?_
          rotate_left
          ·intro w'
           go_simp
           with_reducible rfl
          rotate_left
          ·simp only [Act.put, List.setIfInBounds_toArray, List.set_cons_zero, List.set_cons_succ, i64_w, i32_w]
           rfl
          refine pure_ (i := 1) (N := some 64) (v := ?_) (a' := ?_) #[true, true, false, false, false, false, false, false, false, false] rfl rfl (by kernel_rfl) (fun _ _ _ h => h) (Or.inl ⟨by rfl, ?_⟩) ?_ ?_
          rotate_left
          ·intro w'
           go_simp
           with_reducible rfl
          rotate_left
          ·simp only [Act.put, List.setIfInBounds_toArray, List.set_cons_zero, List.set_cons_succ, i64_w, i32_w]
           rfl
          refine pure_ (i := 3) (N := some 66) (v := ?_) (a' := ?_) #[true, true, false, true, false, false, false, false, false, false] rfl rfl (by kernel_rfl) (fun _ _ _ h => h) (Or.inl ⟨by rfl, ?_⟩) ?_ ?_
          rotate_left
          ·intro w'
           go_simp
           with_reducible rfl
          rotate_left
          ·simp only [Act.put, List.setIfInBounds_toArray, List.set_cons_zero, List.set_cons_succ, i64_w, i32_w]
           rfl
          refine take_ (i := 2) (N := some 65) (v := ?_) (a' := ?_) #[true, true, true, true, false, false, false, false, false, false] rfl rfl (by kernel_rfl) (fun _ _ _ h => h) (Or.inl ⟨by rfl, ?_⟩) hHeld ?_ ?_
          rotate_left
          ·intro w' s0
           go_simp
           with_reducible rfl
          rotate_left
          ·simp only [Act.put, List.setIfInBounds_toArray, List.set_cons_zero, List.set_cons_succ, i64_w, i32_w]
           rfl
          refine one_ (i := 4) (N := some 67) #[true, true, true, true, true, false, false, false, false, false] rfl rfl (by kernel_rfl) (by decide) (fun K hK => ?_)
          refine goesV_ Tryd.func40 (by kernel_rfl) rfl #[] #[.pointer (some ⟨be, 0, none⟩), .pointer (some ⟨bb, 0, none⟩), .pointer (some ⟨ba, 0, none⟩)] (by rfl) rfl rfl rfl y94_ ?_
          have hcall := few2_calls w7b.drew bb ba be A c l a2 e2 v3 a3 e3 k HS7b.out.b HS7b.out.a HS7b.out.e (HC.out _ (below_drew HS7b.out.B)) HCL.out HF3.out
          refine hcall.mono ?_
          clear hcall
          rintro x8 w8 ⟨rfl, hA8, hE8, hM8⟩
          refine ⟨_, rfl, ?_⟩
          have hS8 := HS7b.out.few (w' := w8) hA8 hE8 ⟨hM8.os, hM8.tape, hM8.output, hM8.size, hM8.block⟩
          have hc8 : w8.cell? ⟨bp, 3, none⟩ = some (.int .u64 s) := (blk_cell hS8.p 3).trans rfl
          have hf8 := blk_frozen hS8.p 3
          have HS8 := Lib.hid hS8
          clear hA8 hE8 hM8 hS8
          refine hK.out _ _ (hc8) (fun hHeld => ?_)
          clear hK K
          refine norm_ (a' := ?_) ?_ ?_
          rotate_left
          ·show Act.put _ (some 67) _ = _
           simp only [Act.put, List.setIfInBounds_toArray, List.set_cons_zero, List.set_cons_succ, i64_w, i32_w]
           rfl
          refine pure_ (i := 5) (N := some 68) (v := ?_) (a' := ?_) #[true, true, true, true, true, true, false, false, false, false] rfl rfl (by kernel_rfl) (fun _ _ _ h => h) (Or.inl ⟨by rfl, ?_⟩) ?_ ?_
          rotate_left
          ·intro w'
           go_simp
           with_reducible rfl
          rotate_left
          ·simp only [Act.put, List.setIfInBounds_toArray, List.set_cons_zero, List.set_cons_succ, i64_w, i32_w]
           rfl
          refine pure_ (i := 6) (N := some 69) (v := ?_) (a' := ?_) #[true, true, true, true, true, true, true, false, false, false] rfl rfl (by kernel_rfl) (fun _ _ _ h => h) (Or.inl ⟨by rfl, ?_⟩) ?_ ?_
          rotate_left
          ·intro w'
           go_simp
           with_reducible rfl
          rotate_left
          ·simp only [Act.put, List.setIfInBounds_toArray, List.set_cons_zero, List.set_cons_succ, i64_w, i32_w]
           rfl
          refine pure_ (i := 7) (N := some 70) (v := ?_) (a' := ?_) #[true, true, true, true, true, true, true, true, false, false] rfl rfl (by kernel_rfl) (fun _ _ _ h => h) (Or.inl ⟨by rfl, ?_⟩) ?_ ?_
          rotate_left
          ·intro w'
           go_simp
           with_reducible rfl
          rotate_left
          ·simp only [Act.put, List.setIfInBounds_toArray, List.set_cons_zero, List.set_cons_succ, i64_w, i32_w]
           rfl
          refine pure_ (i := 8) (N := some 71) (v := ?_) (a' := ?_) #[true, true, true, true, true, true, true, true, true, false] rfl rfl (by kernel_rfl) (fun _ _ _ h => h) (Or.inl ⟨by rfl, ?_⟩) ?_ ?_
          rotate_left
          ·intro w'
           go_simp
           with_reducible rfl
          rotate_left
          ·simp only [Act.put, List.setIfInBounds_toArray, List.set_cons_zero, List.set_cons_succ, i64_w, i32_w]
           rfl
          refine last_ (i := 9) (N := none) #[true, true, true, true, true, true, true, true, true, true] rfl rfl (by kernel_rfl) (by decide) (fun K hK => ?_)
          refine skip_ (w1 := ?_) (by rfl) rfl ?_ ?_
          rotate_left
          ·go_simp
           rfl
          refine hK.out _ _ ?_
          clear hK K
          refine done_ (by kernel_rfl) ?_
          clear q18 hc8 hf8
          obtain ⟨w8b, hw8b⟩ : ∃ W', W' = w8.setCell ⟨bp, 3, none⟩ (.int .u64 (IntKind.u64.wrap (s + IntKind.u64.wrap v3))) := ⟨_, rfl⟩
          have HS8b : Hid (PT w w8b bb ba be bp bq br A c l a3 e3 (rf % 4294967296) (wrap64 (t + v2)) v (IntKind.u64.wrap (s + IntKind.u64.wrap v3)) (.slice Ap pts.length cp) pts) := Lib.hid (by rw [hw8b]; exact HS8.out.setS _)
          rw [← hw8b]
          clear hw8b
          have hne3 : e3 ≠ 0 := by
           have h7 := few1_err HFE.out (by decide)
           have h8 := few1_err HF3.out (by rw [h7]; exact (by decide))
           rw [h8, h7]
           exact (by decide)
          have hb3 : (e3 == 0) = false := by simpa using hne3
          have hb4 : (e3 != 0) = true := bne_iff_ne.2 hne3
          have her : errN (errS e3 (seqN s v3)) (wrap64 ((l.length : Int) - a3)) = e3 := by unfold errN errS; rw [if_neg hne3, if_neg hne3]
          have hst := HST.out
          rw [her] at hst
          rw [if_neg hne3] at hst
          obtain rfl := Option.some.inj hst
          have hpp := HPP.out
          simp only at hpp
          rw [if_neg hne3] at hpp
          obtain rfl := Option.some.inj hpp
          have hh := HQ.out
          simp only at hh
          rw [if_neg hne3] at hh
          obtain ⟨rfl, rfl, rfl, rfl, rfl⟩ := five hh
          clear hst hpp hh her
          have qe : w8b.cell? ⟨be, 0, none⟩ = some (.int .i64 e3) := (blk_cell HS8b.out.e 0).trans rfl
          go_upto_region 24 with fail
          clear qe
          have q24 : w8b.drew.cell? ⟨be, 0, none⟩ = some (.int .i64 e3) := (blk_cell HS8b.out.e 0).trans rfl
          have hz0 := blk_frozen HS8b.out.z 0
          have hz1 := blk_frozen HS8b.out.z 1
          have hz2 := blk_frozen HS8b.out.z 2
          have hz3 := blk_frozen HS8b.out.z 3
          have hy0 : w8b.cell? ⟨br, 0, none⟩ = some (.int .i64 0) := (blk_cell HS8b.out.z 0).trans rfl
          have hy1 : w8b.cell? ⟨br, 1, none⟩ = some (.int .u32 0) := (blk_cell HS8b.out.z 1).trans rfl
          have hy2 : w8b.cell? ⟨br, 2, none⟩ = some (.slice none 0 0) := (blk_cell HS8b.out.z 2).trans rfl
          have hy3 : w8b.cell? ⟨br, 3, none⟩ = some (.slice none 0 0) := (blk_cell HS8b.out.z 3).trans rfl
          refine start_ (n := 4) (S := fun w' => w'.cell? ⟨be, 0, none⟩ = some (.int .i64 e3)) (ds := []) #[false, false, false, false] (by kernel_rfl) rfl rfl (q24) (fun hHeld => ?_)
          refine pure_ (i := 0) (N := some 91) (v := ?_) (a' := ?_) #[true, false, false, false] rfl rfl (by kernel_rfl) (fun _ _ _ h => h) (Or.inl ⟨by rfl, ?_⟩) ?_ ?_
          rotate_left
          ·intro w'
           go_simp
           with_reducible rfl
          rotate_left
          ·simp only [Act.put, List.setIfInBounds_toArray, List.set_cons_zero, List.set_cons_succ, i64_w, i32_w]
           rfl
          refine take_ (i := 1) (N := some 92) (v := ?_) (a' := ?_) #[true, true, false, false] rfl rfl (by kernel_rfl) (fun _ _ _ h => h) (Or.inl ⟨by rfl, ?_⟩) hHeld ?_ ?_
          rotate_left
          ·intro w' s0
           go_simp
           with_reducible rfl
          rotate_left
          ·simp only [Act.put, List.setIfInBounds_toArray, List.set_cons_zero, List.set_cons_succ, i64_w, i32_w]
           rfl
          refine one_ (i := 2) (N := none) #[true, true, true, false] rfl rfl (by kernel_rfl) (by decide) (fun K hK => ?_)
          refine skip_ (w1 := ?_) (by rfl) rfl ?_ ?_
          rotate_left
          ·go_simp
           rfl
          refine hK.out _ _ ((cell_far4 HS8b.out.e (ty_ne HS8b.out.e HS8b.out.z (by decide)) : _)) (fun hHeld => ?_)
          clear hK K
          refine pure_ (i := 3) (N := some 3) (v := ?_) (a' := ?_) #[true, true, true, true] rfl rfl (by kernel_rfl) (fun _ _ _ h => h) (Or.inl ⟨by rfl, ?_⟩) ?_ ?_
          rotate_left
          ·intro w'
           go_simp
           with_reducible rfl
          rotate_left
          ·simp only [Act.put, List.setIfInBounds_toArray, List.set_cons_zero, List.set_cons_succ, i64_w, i32_w]
           rfl
          refine done_ (by kernel_rfl) ?_
          go_wp2
          (try simp only [Exit.inBlock, Exit.then]); refine bodyPost_ret (results_ct rfl _ _ br 29 #[.int .i64 0, .int .u32 0, .slice none 0 0, .slice none 0 0] (0, 0) _ rfl (zero4 HS8b.out.z) Tryd.underlying29 rfl (by kernel_rfl)) rfl ?_
          exact ⟨_, _, rfl, Kd.R_nil _ _ _ _ _, Kd.R_nil _ _ _ _ _, zero4_below (below_drew HS8b.out.B) HS8b.out.lr⟩
         ·have hee : errR 0 rf = 0 := by unfold errR; rw [if_pos rfl, if_neg hr0, if_neg hrm]
          have hf2 := HF2.out
          rw [hee] at hf2
          have HFE := Lib.hid hf2
          clear hf2 hee
          have qe5 : w5.cell? ⟨be, 0, none⟩ = some (.int .i64 0) := (blk_cell HS5.out.e 0).trans rfl
          go_upto_region 16 with fail
          clear qe5 hr0b
          have qp0 : w5.cell? ⟨bp, 0, none⟩ = some (.int .u32 r) := (blk_cell HS5.out.p 0).trans rfl
          have fp0 := blk_frozen HS5.out.p 0
          go_upto_region 17 with fail
          clear qp0 fp0
          obtain ⟨wt0, hwt0⟩ : ∃ W', W' = w5.setCell ⟨bp, 0, none⟩ (.int .u32 (rf % 4294967296)) := ⟨_, rfl⟩
          have HT0 : Hid (PT w wt0 bb ba be bp bq br A c l a1 0 (rf % 4294967296) t v s (.slice Ap pts.length cp) pts) := Lib.hid (by rw [hwt0]; exact HS5.out.setR _)
          rw [← hwt0]
          clear hwt0
          have q17 : wt0.drew.cell? ⟨bp, 1, none⟩ = some (.int .i64 t) := (blk_cell HT0.out.p 1).trans rfl
          refine start_ (n := 9) (S := fun w' => w'.cell? ⟨bp, 1, none⟩ = some (.int .i64 t)) (ds := [8]) #[false, false, false, false, false, false, false, false, false] (by kernel_rfl) rfl rfl (q17) (fun hHeld => ?_)
          refine pure_ (i := 0) (N := some 55) (v := ?_) (a' := ?_) #[true, false, false, false, false, false, false, false, false] rfl rfl (by kernel_rfl) (fun _ _ _ h => h) (Or.inl ⟨by rfl, ?_⟩) ?_ ?_
          rotate_left
          ·intro w'
           go_simp
           with_reducible rfl
          rotate_left
          ·simp only [Act.put, List.setIfInBounds_toArray, List.set_cons_zero, List.set_cons_succ, i64_w, i32_w]
           rfl
          refine pure_ (i := 1) (N := some 56) (v := ?_) (a' := ?_) #[true, true, false, false, false, false, false, false, false] rfl rfl (by kernel_rfl) (fun _ _ _ h => h) (Or.inl ⟨by rfl, ?_⟩) ?_ ?_
          rotate_left
          ·intro w'
           go_simp
           with_reducible rfl
          rotate_left
          ·simp only [Act.put, List.setIfInBounds_toArray, List.set_cons_zero, List.set_cons_succ, i64_w, i32_w]
           rfl
          refine pure_ (i := 3) (N := some 58) (v := ?_) (a' := ?_) #[true, true, false, true, false, false, false, false, false] rfl rfl (by kernel_rfl) (fun _ _ _ h => h) (Or.inl ⟨by rfl, ?_⟩) ?_ ?_
          rotate_left
          ·intro w'
           go_simp
           with_reducible rfl
          rotate_left
          ·simp only [Act.put, List.setIfInBounds_toArray, List.set_cons_zero, List.set_cons_succ, i64_w, i32_w]
           rfl
          refine take_ (i := 2) (N := some 57) (v := ?_) (a' := ?_) #[true, true, true, true, false, false, false, false, false] rfl rfl (by kernel_rfl) (fun _ _ _ h => h) (Or.inl ⟨by rfl, ?_⟩) hHeld ?_ ?_
          rotate_left
          ·intro w' s0
           go_simp
           with_reducible rfl
          rotate_left
          ·simp only [Act.put, List.setIfInBounds_toArray, List.set_cons_zero, List.set_cons_succ, i64_w, i32_w]
           rfl
          refine one_ (i := 4) (N := some 59) #[true, true, true, true, true, false, false, false, false] rfl rfl (by kernel_rfl) (by decide) (fun K hK => ?_)
          refine goesV_ Tryd.func40 (by kernel_rfl) rfl #[] #[.pointer (some ⟨be, 0, none⟩), .pointer (some ⟨bb, 0, none⟩), .pointer (some ⟨ba, 0, none⟩)] (by rfl) rfl rfl rfl y94_ ?_
          have hcall := few2_calls wt0.drew bb ba be A c l a1 0 v2 a2 e2 k HT0.out.b HT0.out.a HT0.out.e (HC.out _ (below_drew HT0.out.B)) HCL.out HFE.out
          refine hcall.mono ?_
          clear hcall
          rintro x7 w7 ⟨rfl, hA7, hE7, hM7⟩
          refine ⟨_, rfl, ?_⟩
          have hS7 := HT0.out.few (w' := w7) hA7 hE7 ⟨hM7.os, hM7.tape, hM7.output, hM7.size, hM7.block⟩
          have hc7 : w7.cell? ⟨bp, 1, none⟩ = some (.int .i64 t) := (blk_cell hS7.p 1).trans rfl
          have hf7 := blk_frozen hS7.p 1
          have HS7 := Lib.hid hS7
          clear hA7 hE7 hM7 hS7
          refine hK.out _ _ (hc7) (fun hHeld => ?_)
          clear hK K
          refine norm_ (a' := ?_) ?_ ?_
          rotate_left
          ·show Act.put _ (some 59) _ = _
           simp only [Act.put, List.setIfInBounds_toArray, List.set_cons_zero, List.set_cons_succ, i64_w, i32_w]
           rfl
          refine pure_ (i := 5) (N := some 60) (v := ?_) (a' := ?_) #[true, true, true, true, true, true, false, false, false] rfl rfl (by kernel_rfl) (fun _ _ _ h => h) (Or.inl ⟨by rfl, ?_⟩) ?_ ?_
          rotate_left
          ·intro w'
           go_simp
           with_reducible rfl
          rotate_left
          ·simp only [Act.put, List.setIfInBounds_toArray, List.set_cons_zero, List.set_cons_succ, i64_w, i32_w]
           rfl
          refine pure_ (i := 6) (N := some 61) (v := ?_) (a' := ?_) #[true, true, true, true, true, true, true, false, false] rfl rfl (by kernel_rfl) (fun _ _ _ h => h) (Or.inl ⟨by rfl, ?_⟩) ?_ ?_
          rotate_left
          ·intro w'
           go_simp
           with_reducible rfl
          rotate_left
          ·simp only [Act.put, List.setIfInBounds_toArray, List.set_cons_zero, List.set_cons_succ, i64_w, i32_w]
           rfl
          refine pure_ (i := 7) (N := some 62) (v := ?_) (a' := ?_) #[true, true, true, true, true, true, true, true, false] rfl rfl (by kernel_rfl) (fun _ _ _ h => h) (Or.inl ⟨by rfl, ?_⟩) ?_ ?_
          rotate_left
          ·intro w'
           go_simp
           with_reducible rfl
          rotate_left
          ·simp only [Act.put, List.setIfInBounds_toArray, List.set_cons_zero, List.set_cons_succ, i64_w, i32_w]
           rfl
          refine last_ (i := 8) (N := none) #[true, true, true, true, true, true, true, true, true] rfl rfl (by kernel_rfl) (by decide) (fun K hK => ?_)
          refine skip_ (w1 := ?_) (by rfl) rfl ?_ ?_
          rotate_left
          ·go_simp
           rfl
          refine hK.out _ _ ?_
          clear hK K
          refine done_ (by kernel_rfl) ?_
          clear q17 hc7 hf7
          obtain ⟨w7b, hw7b⟩ : ∃ W', W' = w7.setCell ⟨bp, 1, none⟩ (.int .i64 (wrap64 (t + v2))) := ⟨_, rfl⟩
          have HS7b : Hid (PT w w7b bb ba be bp bq br A c l a2 e2 (rf % 4294967296) (wrap64 (t + v2)) v s (.slice Ap pts.length cp) pts) := Lib.hid (by rw [hw7b]; exact HS7.out.setT _)
          rw [← hw7b]
          clear hw7b
          go_upto_region 18 with fail
          have q18 : w7b.drew.cell? ⟨bp, 3, none⟩ = some (.int .u64 s) := (blk_cell HS7b.out.p 3).trans rfl
          refine start_ (n := 10) (S := fun w' => w'.cell? ⟨bp, 3, none⟩ = some (.int .u64 s)) (ds := [9]) #[false, false, false, false, false, false, false, false, false, false] (by kernel_rfl) rfl rfl (q18) (fun hHeld => ?_)
          refine pure_ (i := 0) (N := some 63) (v := ?_) (a' := ?_) #[true, false, false, false, false, false, false, false, false, false] rfl rfl (by kernel_rfl) (fun _ _ _ h => h) (Or.inl ⟨by rfl, ?_⟩) ?_ ?_
          rotate_left
          ·intro w'
           go_simp
           with_reducible rfl
          rotate_left
          ·simp only [Act.put, List.setIfInBounds_toArray, List.set_cons_zero, List.set_cons_succ, i64_w, i32_w]
           rfl
          refine pure_ (i := 1) (N := some 64) (v := ?_) (a' := ?_) #[true, true, false, false, false, false, false, false, false, false] rfl rfl (by kernel_rfl) (fun _ _ _ h => h) (Or.inl ⟨by rfl, ?_⟩) ?_ ?_
          rotate_left
          ·intro w'
           go_simp
           with_reducible rfl
          rotate_left
          ·simp only [Act.put, List.setIfInBounds_toArray, List.set_cons_zero, List.set_cons_succ, i64_w, i32_w]
           rfl
          refine pure_ (i := 3) (N := some 66) (v := ?_) (a' := ?_) #[true, true, false, true, false, false, false, false, false, false] rfl rfl (by kernel_rfl) (fun _ _ _ h => h) (Or.inl ⟨by rfl, ?_⟩) ?_ ?_
          rotate_left
          ·intro w'
           go_simp
           with_reducible rfl
          rotate_left
          ·simp only [Act.put, List.setIfInBounds_toArray, List.set_cons_zero, List.set_cons_succ, i64_w, i32_w]
           rfl
          refine take_ (i := 2) (N := some 65) (v := ?_) (a' := ?_) #[true, true, true, true, false, false, false, false, false, false] rfl rfl (by kernel_rfl) (fun _ _ _ h => h) (Or.inl ⟨by rfl, ?_⟩) hHeld ?_ ?_
          rotate_left
          ·intro w' s0
           go_simp
           with_reducible rfl
          rotate_left
          ·simp only [Act.put, List.setIfInBounds_toArray, List.set_cons_zero, List.set_cons_succ, i64_w, i32_w]
           rfl
          refine one_ (i := 4) (N := some 67) #[true, true, true, true, true, false, false, false, false, false] rfl rfl (by kernel_rfl) (by decide) (fun K hK => ?_)
          refine goesV_ Tryd.func40 (by kernel_rfl) rfl #[] #[.pointer (some ⟨be, 0, none⟩), .pointer (some ⟨bb, 0, none⟩), .pointer (some ⟨ba, 0, none⟩)] (by rfl) rfl rfl rfl y94_ ?_
          have hcall := few2_calls w7b.drew bb ba be A c l a2 e2 v3 a3 e3 k HS7b.out.b HS7b.out.a HS7b.out.e (HC.out _ (below_drew HS7b.out.B)) HCL.out HF3.out
          refine hcall.mono ?_
          clear hcall
          rintro x8 w8 ⟨rfl, hA8, hE8, hM8⟩
          refine ⟨_, rfl, ?_⟩
          have hS8 := HS7b.out.few (w' := w8) hA8 hE8 ⟨hM8.os, hM8.tape, hM8.output, hM8.size, hM8.block⟩
          have hc8 : w8.cell? ⟨bp, 3, none⟩ = some (.int .u64 s) := (blk_cell hS8.p 3).trans rfl
          have hf8 := blk_frozen hS8.p 3
          have HS8 := Lib.hid hS8
          clear hA8 hE8 hM8 hS8
          refine hK.out _ _ (hc8) (fun hHeld => ?_)
          clear hK K
          refine norm_ (a' := ?_) ?_ ?_
          rotate_left
          ·show Act.put _ (some 67) _ = _
           simp only [Act.put, List.setIfInBounds_toArray, List.set_cons_zero, List.set_cons_succ, i64_w, i32_w]
           rfl
          refine pure_ (i := 5) (N := some 68) (v := ?_) (a' := ?_) #[true, true, true, true, true, true, false, false, false, false] rfl rfl (by kernel_rfl) (fun _ _ _ h => h) (Or.inl ⟨by rfl, ?_⟩) ?_ ?_
          rotate_left
          ·intro w'
           go_simp
           with_reducible rfl
          rotate_left
          ·simp only [Act.put, List.setIfInBounds_toArray, List.set_cons_zero, List.set_cons_succ, i64_w, i32_w]
           rfl
          refine pure_ (i := 6) (N := some 69) (v := ?_) (a' := ?_) #[true, true, true, true, true, true, true, false, false, false] rfl rfl (by kernel_rfl) (fun _ _ _ h => h) (Or.inl ⟨by rfl, ?_⟩) ?_ ?_
          rotate_left
          ·intro w'
           go_simp
           with_reducible rfl
          rotate_left
          ·simp only [Act.put, List.setIfInBounds_toArray, List.set_cons_zero, List.set_cons_succ, i64_w, i32_w]
           rfl
          refine pure_ (i := 7) (N := some 70) (v := ?_) (a' := ?_) #[true, true, true, true, true, true, true, true, false, false] rfl rfl (by kernel_rfl) (fun _ _ _ h => h) (Or.inl ⟨by rfl, ?_⟩) ?_ ?_
          rotate_left
          ·intro w'
           go_simp
           with_reducible rfl
          rotate_left
          ·simp only [Act.put, List.setIfInBounds_toArray, List.set_cons_zero, List.set_cons_succ, i64_w, i32_w]
           rfl
          refine pure_ (i := 8) (N := some 71) (v := ?_) (a' := ?_) #[true, true, true, true, true, true, true, true, true, false] rfl rfl (by kernel_rfl) (fun _ _ _ h => h) (Or.inl ⟨by rfl, ?_⟩) ?_ ?_
          rotate_left
          ·intro w'
           go_simp
           with_reducible rfl
          rotate_left
          ·simp only [Act.put, List.setIfInBounds_toArray, List.set_cons_zero, List.set_cons_succ, i64_w, i32_w]
           rfl
          refine last_ (i := 9) (N := none) #[true, true, true, true, true, true, true, true, true, true] rfl rfl (by kernel_rfl) (by decide) (fun K hK => ?_)
          refine skip_ (w1 := ?_) (by rfl) rfl ?_ ?_
          rotate_left
          ·go_simp
           rfl
          refine hK.out _ _ ?_
          clear hK K
          refine done_ (by kernel_rfl) ?_
          clear q18 hc8 hf8
          obtain ⟨w8b, hw8b⟩ : ∃ W', W' = w8.setCell ⟨bp, 3, none⟩ (.int .u64 (IntKind.u64.wrap (s + IntKind.u64.wrap v3))) := ⟨_, rfl⟩
          have HS8b : Hid (PT w w8b bb ba be bp bq br A c l a3 e3 (rf % 4294967296) (wrap64 (t + v2)) v (IntKind.u64.wrap (s + IntKind.u64.wrap v3)) (.slice Ap pts.length cp) pts) := Lib.hid (by rw [hw8b]; exact HS8.out.setS _)
          rw [← hw8b]
          clear hw8b
          by_cases he3 : e3 = 0
          ·subst he3
           obtain ⟨sq, hsq⟩ : ∃ sq, sq = IntKind.u64.wrap (s + IntKind.u64.wrap v3) := ⟨_, rfl⟩
           have HSQ : Hid (seqN s v3 = sq) := Lib.hid (by rw [hsq]; rfl)
           have HS9 : Hid (PT w w8b bb ba be bp bq br A c l a3 0 (rf % 4294967296) (wrap64 (t + v2)) v sq (.slice Ap pts.length cp) pts) := Lib.hid (by rw [hsq]; exact HS8b.out)
           clear hsq
           have HST2 := HST.out
           rw [HSQ.out] at HST2
           have HST := Lib.hid HST2
           clear HST2 HS8b
           have qe : w8b.cell? ⟨be, 0, none⟩ = some (.int .i64 0) := (blk_cell HS9.out.e 0).trans rfl
           have qs : w8b.cell? ⟨bp, 3, none⟩ = some (.int .u64 sq) := (blk_cell HS9.out.p 3).trans rfl
           by_cases hs0 : sq = 0
           ·subst hs0
            have hne3 : (1 : Int) ≠ 0 := by decide
            have her : errN (errS 0 0) (wrap64 ((l.length : Int) - a3)) = 1 := by unfold errN errS; simp
            have hst := HST.out
            rw [her] at hst
            rw [if_neg hne3] at hst
            obtain rfl := Option.some.inj hst
            have hpp := HPP.out
            simp only at hpp
            rw [if_neg hne3] at hpp
            obtain rfl := Option.some.inj hpp
            have hh := HQ.out
            simp only at hh
            rw [if_neg hne3] at hh
            obtain ⟨rfl, rfl, rfl, rfl, rfl⟩ := five hh
            clear hst hpp hh her
            have fe := blk_frozen HS9.out.e 0
            go_upto_region 21 with fail
            clear qe qs fe
            obtain ⟨wE, hwE⟩ : ∃ W', W' = w8b.setCell ⟨be, 0, none⟩ (.int .i64 1) := ⟨_, rfl⟩
            have HSE : Hid (PT w wE bb ba be bp bq br A c l a3 1 (rf % 4294967296) (wrap64 (t + v2)) v 0 (.slice Ap pts.length cp) pts) := Lib.hid (by rw [hwE]; exact HS9.out.setE 1)
            rw [← hwE]
            clear hwE
            have qe : wE.cell? ⟨be, 0, none⟩ = some (.int .i64 1) := (blk_cell HSE.out.e 0).trans rfl
            go_upto_region 24 with fail
            clear qe
            have q24 : wE.drew.cell? ⟨be, 0, none⟩ = some (.int .i64 1) := (blk_cell HSE.out.e 0).trans rfl
            have hz0 := blk_frozen HSE.out.z 0
            have hz1 := blk_frozen HSE.out.z 1
            have hz2 := blk_frozen HSE.out.z 2
            have hz3 := blk_frozen HSE.out.z 3
            have hy0 : wE.cell? ⟨br, 0, none⟩ = some (.int .i64 0) := (blk_cell HSE.out.z 0).trans rfl
            have hy1 : wE.cell? ⟨br, 1, none⟩ = some (.int .u32 0) := (blk_cell HSE.out.z 1).trans rfl
            have hy2 : wE.cell? ⟨br, 2, none⟩ = some (.slice none 0 0) := (blk_cell HSE.out.z 2).trans rfl
            have hy3 : wE.cell? ⟨br, 3, none⟩ = some (.slice none 0 0) := (blk_cell HSE.out.z 3).trans rfl
            refine start_ (n := 4) (S := fun w' => w'.cell? ⟨be, 0, none⟩ = some (.int .i64 1)) (ds := []) #[false, false, false, false] (by kernel_rfl) rfl rfl (q24) (fun hHeld => ?_)
            refine pure_ (i := 0) (N := some 91) (v := ?_) (a' := ?_) #[true, false, false, false] rfl rfl (by kernel_rfl) (fun _ _ _ h => h) (Or.inl ⟨by rfl, ?_⟩) ?_ ?_
            rotate_left
            ·intro w'
             go_simp
             with_reducible rfl
            rotate_left
            ·simp only [Act.put, List.setIfInBounds_toArray, List.set_cons_zero, List.set_cons_succ, i64_w, i32_w]
             rfl
            refine take_ (i := 1) (N := some 92) (v := ?_) (a' := ?_) #[true, true, false, false] rfl rfl (by kernel_rfl) (fun _ _ _ h => h) (Or.inl ⟨by rfl, ?_⟩) hHeld ?_ ?_
            rotate_left
            ·intro w' s0
             go_simp
             with_reducible rfl
            rotate_left
            ·simp only [Act.put, List.setIfInBounds_toArray, List.set_cons_zero, List.set_cons_succ, i64_w, i32_w]
             rfl
            refine one_ (i := 2) (N := none) #[true, true, true, false] rfl rfl (by kernel_rfl) (by decide) (fun K hK => ?_)
            refine skip_ (w1 := ?_) (by rfl) rfl ?_ ?_
            rotate_left
            ·go_simp
             rfl
            refine hK.out _ _ ((cell_far4 HSE.out.e (ty_ne HSE.out.e HSE.out.z (by decide)) : _)) (fun hHeld => ?_)
            clear hK K
            refine pure_ (i := 3) (N := some 3) (v := ?_) (a' := ?_) #[true, true, true, true] rfl rfl (by kernel_rfl) (fun _ _ _ h => h) (Or.inl ⟨by rfl, ?_⟩) ?_ ?_
            rotate_left
            ·intro w'
             go_simp
             with_reducible rfl
            rotate_left
            ·simp only [Act.put, List.setIfInBounds_toArray, List.set_cons_zero, List.set_cons_succ, i64_w, i32_w]
             rfl
            refine done_ (by kernel_rfl) ?_
            go_wp2
            (try simp only [Exit.inBlock, Exit.then]); refine bodyPost_ret (results_ct rfl _ _ br 29 #[.int .i64 0, .int .u32 0, .slice none 0 0, .slice none 0 0] (0, 0) _ rfl (zero4 HSE.out.z) Tryd.underlying29 rfl (by kernel_rfl)) rfl ?_
            exact ⟨_, _, rfl, Kd.R_nil _ _ _ _ _, Kd.R_nil _ _ _ _ _, zero4_below (below_drew HSE.out.B) HSE.out.lr⟩
           ·have hb3 : (sq == 0) = false := by simpa using hs0
            have qa : w8b.cell? ⟨ba, 0, none⟩ = some (.int .i64 a3) := (blk_cell HS9.out.a 0).trans rfl
            have qb : w8b.cell? ⟨bb, 0, none⟩ = some (.slice A l.length c) := (blk_cell HS9.out.b 0).trans rfl
            obtain ⟨nn, hnn⟩ : ∃ nn, wrap64 ((l.length : Int) - a3) = nn := ⟨_, rfl⟩
            by_cases hn8 : nn < 8
            ·have hne3 : (6 : Int) ≠ 0 := by decide
             have her : errN (errS 0 sq) (wrap64 ((l.length : Int) - a3)) = 6 := by unfold errN errS; rw [if_pos rfl, if_neg hs0, if_pos rfl, hnn, if_pos hn8]
             have hst := HST.out
             rw [her] at hst
             rw [if_neg hne3] at hst
             obtain rfl := Option.some.inj hst
             have hpp := HPP.out
             simp only at hpp
             rw [if_neg hne3] at hpp
             obtain rfl := Option.some.inj hpp
             have hh := HQ.out
             simp only at hh
             rw [if_neg hne3] at hh
             obtain ⟨rfl, rfl, rfl, rfl, rfl⟩ := five hh
             clear hst hpp hh her
             have fe := blk_frozen HS9.out.e 0
             go_upto_region 23 with fail
             clear qe qs fe qa qb
             obtain ⟨wE, hwE⟩ : ∃ W', W' = w8b.setCell ⟨be, 0, none⟩ (.int .i64 6) := ⟨_, rfl⟩
             have HSE : Hid (PT w wE bb ba be bp bq br A c l a3 6 (rf % 4294967296) (wrap64 (t + v2)) v sq (.slice Ap pts.length cp) pts) := Lib.hid (by rw [hwE]; exact HS9.out.setE 6)
             rw [← hwE]
             clear hwE
             have qe : wE.cell? ⟨be, 0, none⟩ = some (.int .i64 6) := (blk_cell HSE.out.e 0).trans rfl
             go_upto_region 24 with fail
             clear qe
             have q24 : wE.drew.cell? ⟨be, 0, none⟩ = some (.int .i64 6) := (blk_cell HSE.out.e 0).trans rfl
             have hz0 := blk_frozen HSE.out.z 0
             have hz1 := blk_frozen HSE.out.z 1
             have hz2 := blk_frozen HSE.out.z 2
             have hz3 := blk_frozen HSE.out.z 3
             have hy0 : wE.cell? ⟨br, 0, none⟩ = some (.int .i64 0) := (blk_cell HSE.out.z 0).trans rfl
             have hy1 : wE.cell? ⟨br, 1, none⟩ = some (.int .u32 0) := (blk_cell HSE.out.z 1).trans rfl
             have hy2 : wE.cell? ⟨br, 2, none⟩ = some (.slice none 0 0) := (blk_cell HSE.out.z 2).trans rfl
             have hy3 : wE.cell? ⟨br, 3, none⟩ = some (.slice none 0 0) := (blk_cell HSE.out.z 3).trans rfl
             refine start_ (n := 4) (S := fun w' => w'.cell? ⟨be, 0, none⟩ = some (.int .i64 6)) (ds := []) #[false, false, false, false] (by kernel_rfl) rfl rfl (q24) (fun hHeld => ?_)
             refine pure_ (i := 0) (N := some 91) (v := ?_) (a' := ?_) #[true, false, false, false] rfl rfl (by kernel_rfl) (fun _ _ _ h => h) (Or.inl ⟨by rfl, ?_⟩) ?_ ?_
             rotate_left
             ·intro w'
              go_simp
              with_reducible rfl
             rotate_left
             ·simp only [Act.put, List.setIfInBounds_toArray, List.set_cons_zero, List.set_cons_succ, i64_w, i32_w]
              rfl
             refine take_ (i := 1) (N := some 92) (v := ?_) (a' := ?_) #[true, true, false, false] rfl rfl (by kernel_rfl) (fun _ _ _ h => h) (Or.inl ⟨by rfl, ?_⟩) hHeld ?_ ?_
             rotate_left
             ·intro w' s0
              go_simp
              with_reducible rfl
             rotate_left
             ·simp only [Act.put, List.setIfInBounds_toArray, List.set_cons_zero, List.set_cons_succ, i64_w, i32_w]
              rfl
             refine one_ (i := 2) (N := none) #[true, true, true, false] rfl rfl (by kernel_rfl) (by decide) (fun K hK => ?_)
             refine skip_ (w1 := ?_) (by rfl) rfl ?_ ?_
             rotate_left
             ·go_simp
              rfl
             refine hK.out _ _ ((cell_far4 HSE.out.e (ty_ne HSE.out.e HSE.out.z (by decide)) : _)) (fun hHeld => ?_)
             clear hK K
             refine pure_ (i := 3) (N := some 3) (v := ?_) (a' := ?_) #[true, true, true, true] rfl rfl (by kernel_rfl) (fun _ _ _ h => h) (Or.inl ⟨by rfl, ?_⟩) ?_ ?_
             rotate_left
             ·intro w'
              go_simp
              with_reducible rfl
             rotate_left
             ·simp only [Act.put, List.setIfInBounds_toArray, List.set_cons_zero, List.set_cons_succ, i64_w, i32_w]
              rfl
             refine done_ (by kernel_rfl) ?_
             go_wp2
             (try simp only [Exit.inBlock, Exit.then]); refine bodyPost_ret (results_ct rfl _ _ br 29 #[.int .i64 0, .int .u32 0, .slice none 0 0, .slice none 0 0] (0, 0) _ rfl (zero4 HSE.out.z) Tryd.underlying29 rfl (by kernel_rfl)) rfl ?_
             exact ⟨_, _, rfl, Kd.R_nil _ _ _ _ _, Kd.R_nil _ _ _ _ _, zero4_below (below_drew HSE.out.B) HSE.out.lr⟩
            ·have her : errN (errS 0 sq) (wrap64 ((l.length : Int) - a3)) = 0 := by unfold errN errS; rw [if_pos rfl, if_neg hs0, if_pos rfl, hnn, if_neg hn8]
             have hst := HST.out
             rw [her, if_pos rfl] at hst
             go_upto_region 26 with fail
             clear qe qs qa qb hb3 hnn hn8 her
             split at hst
             ·rename_i g0
              split at hst
              ·rename_i g1
               split at hst
               ·rename_i g2
                obtain rfl := Option.some.inj hst
                clear hst
                obtain ⟨n3, rfl⟩ := Int.eq_ofNat_of_zero_le g0
                have hpp := HPP.out
                simp only at hpp
                rw [if_pos trivial, Int.toNat_natCast] at hpp
                have HPN := Lib.hid hpp
                clear hpp HPP HST
                generalize gk = GK at *
                have HG0 := Lib.hid (And.intro hlt hi)
                clear hlt hi g0
                go_wp2_with fail
                go_loopg [11, 93] 8 (fun kq s11 s93 wr => ∃ j : Nat, j + kq = 8 ∧ s93 = .int .i64 (j : Int) ∧ s11 = .int .u64 (((l.drop n3).take j).foldl v8 0) ∧ Hid (PT w wr bb ba be bp bq br A c l ((n3 + j : Nat) : Int) 0 (rf % 4294967296) (wrap64 (t + v2)) v sq (.slice Ap pts.length cp) pts))
                case atStart => exact ⟨0, by omega, rfl, rfl, HS9.out⟩
                case round =>
                 obtain ⟨j, hj, rfl, rfl, HSJ⟩ := hrel
                 by_cases hj8 : j < 8
                 ·have qa : wr.cell? ⟨ba, 0, none⟩ = some (.int .i64 ((n3 + j : Nat) : Int)) := (blk_cell HSJ.out.a 0).trans rfl
                  have qb : wr.cell? ⟨bb, 0, none⟩ = some (.slice A l.length c) := (blk_cell HSJ.out.b 0).trans rfl
                  obtain ⟨ad, hA, qx⟩ := byte_at (HC.out wr HSJ.out.B) (show n3 + j < l.length by omega)
                  subst hA
                  have fa := blk_frozen HSJ.out.a 0
                  obtain ⟨X, hX⟩ : ∃ X, X = ((l.drop n3).take j).foldl v8 0 := ⟨_, rfl⟩
                  obtain ⟨x, hx⟩ : ∃ x, x = l.getD (n3 + j) 0 := ⟨_, rfl⟩
                  have HXX : Hid (((l.drop n3).take (j + 1)).foldl v8 0 = bits .or .u64 (IntKind.u64.wrap (X * 256)) (IntKind.u64.wrap x)) := Lib.hid (by
                   rw [fold8 l n3 j (by omega), ← hX, ← hx]
                   rfl)
                  rw [← hx] at qx
                  rw [← hX]
                  obtain ⟨N, hN⟩ : ∃ N : Nat, N = n3 + j := ⟨_, rfl⟩
                  rw [← hN] at qa qx
                  have i0 : (N : Int) < (l.length : Int) := by omega
                  have i1 : (0 : Int) ≤ (N : Int) := by omega
                  have i2 : N < l.length := by omega
                  have HN := Lib.hid hN
                  have hw1 : wrap64 ((N : Int) + 1) = ((N + 1 : Nat) : Int) := by unfold wrap64; omega
                  clear hX hx hN g1 g2
                  go_upto_region 30 with fail
                  have HSK : Hid (PT w (wr.setCell ⟨ba, 0, none⟩ (.int .i64 ((N + 1 : Nat) : Int))) bb ba be bp bq br (some ad) c l ((n3 + (j + 1) : Nat) : Int) 0 (rf % 4294967296) (wrap64 (t + v2)) v sq (.slice Ap pts.length cp) pts) := Lib.hid (by
                   have h9 := HSJ.out.setA ((N + 1 : Nat) : Int)
                   rwa [show ((N + 1 : Nat) : Int) = ((n3 + (j + 1) : Nat) : Int) by rw [HN.out]; rfl] at h9 ⊢)
                  clear hw1
                  go_wp2_with fail
                  go_roundg (gk - 1)
                  case measure => omega
                  case rel => exact ⟨j + 1, by omega, by go_num, by rw [HXX.out], HSK.out⟩
                 ·have h8 : j = 8 := by omega
                  subst h8
                  have qv : wr.cell? ⟨bp, 2, none⟩ = some (.int .u64 v) := (blk_cell HSJ.out.p 2).trans rfl
                  have fv := blk_frozen HSJ.out.p 2
                  obtain ⟨X, hX⟩ : ∃ X, X = ((l.drop n3).take 8).foldl v8 0 := ⟨_, rfl⟩
                  rw [← hX]
                  have HX := Lib.hid hX
                  clear hX
                  go_upto_region 32 with fail
                  clear qv fv
                  obtain ⟨wV, hwV⟩ : ∃ W', W' = wr.setCell ⟨bp, 2, none⟩ (.int .u64 X) := ⟨_, rfl⟩
                  have HSV : Hid (PT w wV bb ba be bp bq br A c l ((n3 + 8 : Nat) : Int) 0 (rf % 4294967296) (wrap64 (t + v2)) X sq (.slice Ap pts.length cp) pts) := Lib.hid (by rw [hwV]; exact HSJ.out.setV X)
                  rw [← hwV]
                  clear hwV
                  have x0 : wV.cell? ⟨bp, 0, none⟩ = some (.int .u32 (rf % 4294967296)) := (blk_cell HSV.out.p 0).trans rfl
                  have x1 : wV.cell? ⟨bp, 1, none⟩ = some (.int .i64 (wrap64 (t + v2))) := (blk_cell HSV.out.p 1).trans rfl
                  have x2 : wV.cell? ⟨bp, 2, none⟩ = some (.int .u64 X) := (blk_cell HSV.out.p 2).trans rfl
                  have x3 : wV.cell? ⟨bp, 3, none⟩ = some (.int .u64 sq) := (blk_cell HSV.out.p 3).trans rfl
                  have y3 : wV.cell? ⟨bq, 3, none⟩ = some (.slice Ap pts.length cp) := (blk_cell HSV.out.q 3).trans rfl
                  have hp256 : pts.length ≤ 256 := by have := HG0.out.1; omega
                  go_wp2_with (at_builtin; refine Kd.R_append k45 (w0 := w) (W := wV) w.heap.size rfl (.tmp 110) (.tmp 112) 27 45 (.agg #[(.int .u32 0), (.int .i64 0), (.int .u64 0), (.int .u64 0)]) 32 rfl Tryd.underlying27 info45 rfl (by decide) (by decide) _ pts (⟨rf % 4294967296, ⟨wrap64 (t + v2), X, sq⟩⟩ : S45) [.int .u32 (rf % 4294967296), .int .i64 (wrap64 (t + v2)), .int .u64 X, .int .u64 sq] (fun k => k ≠ bp) (fun _ => False) rfl rfl (k45_mkM _ _ _ _) (fun _ h => h.elim) (fun k hk => by have := blk_lt HSV.out.p; omega) HSV.out.R HSV.out.B HSV.out.B.size (by omega) ?_; intro v6 w6 hR6 hB6 hg6 _; obtain ⟨A6, c6, hv6⟩ := Kd.R_slice hR6; obtain ⟨n6, hn6⟩ : ∃ n6, n6 = (pts ++ [(⟨rf % 4294967296, ⟨wrap64 (t + v2), X, sq⟩⟩ : S45)]).length := ⟨_, rfl⟩; rw [← hn6] at hv6; subst hv6; clear hn6; have hq6 := (hg6.block bq (blk_lt HSV.out.q) (fun e => Kd.R_ne HSV.out.R HSV.out.q (by decide) e)).trans HSV.out.q; have y6 : w6.cell? ⟨bq, 3, none⟩ = some (.slice Ap pts.length cp) := (blk_cell hq6 3).trans rfl; have f6 := blk_frozen hq6 3; have HSN := Lib.hid (HSV.out.grow hR6 hg6); clear hR6 hB6 hg6 hq6)
                  go_roundg (GK - 1)
                  case measure => have := HG0.out; omega
                  case rel => exact ⟨i + 1, ((n3 + 8 : Nat) : Int), rf % 4294967296, wrap64 (t + v2), X, sq, .slice A6 n6 c6, pts ++ [⟨rf % 4294967296, ⟨wrap64 (t + v2), X, sq⟩⟩], by have := HG0.out; omega, by have h9 := HG0.out; rw [show wrap64 ((i : Int) + 1) = ((i + 1 : Nat) : Int) from (by unfold wrap64; omega)], by rw [List.length_append, List.length_singleton]; omega, HSN, by
                   have h9 := HPN.out
                   have hgk : GK - 1 = gk2 := by have := HGK.out; omega
                   rw [hgk, HX.out]
                   exact h9⟩
               ·cases hst
              ·cases hst
             ·cases hst
          ·have hne3 : e3 ≠ 0 := he3
           have hb3 : (e3 == 0) = false := by simpa using hne3
           have hb4 : (e3 != 0) = true := bne_iff_ne.2 hne3
           have her : errN (errS e3 (seqN s v3)) (wrap64 ((l.length : Int) - a3)) = e3 := by unfold errN errS; rw [if_neg hne3, if_neg hne3]
           have hst := HST.out
           rw [her] at hst
           rw [if_neg hne3] at hst
           obtain rfl := Option.some.inj hst
           have hpp := HPP.out
           simp only at hpp
           rw [if_neg hne3] at hpp
           obtain rfl := Option.some.inj hpp
           have hh := HQ.out
           simp only at hh
           rw [if_neg hne3] at hh
           obtain ⟨rfl, rfl, rfl, rfl, rfl⟩ := five hh
           clear hst hpp hh her
           have qe : w8b.cell? ⟨be, 0, none⟩ = some (.int .i64 e3) := (blk_cell HS8b.out.e 0).trans rfl
           go_upto_region 24 with fail
           clear qe
           have q24 : w8b.drew.cell? ⟨be, 0, none⟩ = some (.int .i64 e3) := (blk_cell HS8b.out.e 0).trans rfl
           have hz0 := blk_frozen HS8b.out.z 0
           have hz1 := blk_frozen HS8b.out.z 1
           have hz2 := blk_frozen HS8b.out.z 2
           have hz3 := blk_frozen HS8b.out.z 3
           have hy0 : w8b.cell? ⟨br, 0, none⟩ = some (.int .i64 0) := (blk_cell HS8b.out.z 0).trans rfl
           have hy1 : w8b.cell? ⟨br, 1, none⟩ = some (.int .u32 0) := (blk_cell HS8b.out.z 1).trans rfl
           have hy2 : w8b.cell? ⟨br, 2, none⟩ = some (.slice none 0 0) := (blk_cell HS8b.out.z 2).trans rfl
           have hy3 : w8b.cell? ⟨br, 3, none⟩ = some (.slice none 0 0) := (blk_cell HS8b.out.z 3).trans rfl
           refine start_ (n := 4) (S := fun w' => w'.cell? ⟨be, 0, none⟩ = some (.int .i64 e3)) (ds := []) #[false, false, false, false] (by kernel_rfl) rfl rfl (q24) (fun hHeld => ?_)
           refine pure_ (i := 0) (N := some 91) (v := ?_) (a' := ?_) #[true, false, false, false] rfl rfl (by kernel_rfl) (fun _ _ _ h => h) (Or.inl ⟨by rfl, ?_⟩) ?_ ?_
           rotate_left
           ·intro w'
            go_simp
            with_reducible rfl
           rotate_left
           ·simp only [Act.put, List.setIfInBounds_toArray, List.set_cons_zero, List.set_cons_succ, i64_w, i32_w]
            rfl
           refine take_ (i := 1) (N := some 92) (v := ?_) (a' := ?_) #[true, true, false, false] rfl rfl (by kernel_rfl) (fun _ _ _ h => h) (Or.inl ⟨by rfl, ?_⟩) hHeld ?_ ?_
           rotate_left
           ·intro w' s0
            go_simp
            with_reducible rfl
           rotate_left
           ·simp only [Act.put, List.setIfInBounds_toArray, List.set_cons_zero, List.set_cons_succ, i64_w, i32_w]
            rfl
           refine one_ (i := 2) (N := none) #[true, true, true, false] rfl rfl (by kernel_rfl) (by decide) (fun K hK => ?_)
           refine skip_ (w1 := ?_) (by rfl) rfl ?_ ?_
           rotate_left
           ·go_simp
            rfl
           refine hK.out _ _ ((cell_far4 HS8b.out.e (ty_ne HS8b.out.e HS8b.out.z (by decide)) : _)) (fun hHeld => ?_)
           clear hK K
           refine pure_ (i := 3) (N := some 3) (v := ?_) (a' := ?_) #[true, true, true, true] rfl rfl (by kernel_rfl) (fun _ _ _ h => h) (Or.inl ⟨by rfl, ?_⟩) ?_ ?_
           rotate_left
           ·intro w'
            go_simp
            with_reducible rfl
           rotate_left
           ·simp only [Act.put, List.setIfInBounds_toArray, List.set_cons_zero, List.set_cons_succ, i64_w, i32_w]
            rfl
           refine done_ (by kernel_rfl) ?_
           go_wp2
           (try simp only [Exit.inBlock, Exit.then]); refine bodyPost_ret (results_ct rfl _ _ br 29 #[.int .i64 0, .int .u32 0, .slice none 0 0, .slice none 0 0] (0, 0) _ rfl (zero4 HS8b.out.z) Tryd.underlying29 rfl (by kernel_rfl)) rfl ?_
           exact ⟨_, _, rfl, Kd.R_nil _ _ _ _ _, Kd.R_nil _ _ _ _ _, zero4_below (below_drew HS8b.out.B) HS8b.out.lr⟩
       ·have hee : errR e1 rf = e1 := by unfold errR; rw [if_neg he1]
        have hf2 := HF2.out
        rw [hee] at hf2
        have HFE := Lib.hid hf2
        clear hf2 hee
        have qe5 : w5.cell? ⟨be, 0, none⟩ = some (.int .i64 e1) := (blk_cell HS5.out.e 0).trans rfl
        have hb1 : (e1 == 0) = false := by simpa using he1
        go_upto_region 16 with fail
        clear qe5 hb1
        have qp0 : w5.cell? ⟨bp, 0, none⟩ = some (.int .u32 r) := (blk_cell HS5.out.p 0).trans rfl
        have fp0 := blk_frozen HS5.out.p 0
        go_upto_region 17 with fail
        clear qp0 fp0
        obtain ⟨wt0, hwt0⟩ : ∃ W', W' = w5.setCell ⟨bp, 0, none⟩ (.int .u32 (rf % 4294967296)) := ⟨_, rfl⟩
        have HT0 : Hid (PT w wt0 bb ba be bp bq br A c l a1 e1 (rf % 4294967296) t v s (.slice Ap pts.length cp) pts) := Lib.hid (by rw [hwt0]; exact HS5.out.setR _)
        rw [← hwt0]
        clear hwt0
        have q17 : wt0.drew.cell? ⟨bp, 1, none⟩ = some (.int .i64 t) := (blk_cell HT0.out.p 1).trans rfl
        refine start_ (n := 9) (S := fun w' => w'.cell? ⟨bp, 1, none⟩ = some (.int .i64 t)) (ds := [8]) #[false, false, false, false, false, false, false, false, false] (by kernel_rfl) rfl rfl (q17) (fun hHeld => ?_)
        refine pure_ (i := 0) (N := some 55) (v := ?_) (a' := ?_) #[true, false, false, false, false, false, false, false, false] rfl rfl (by kernel_rfl) (fun _ _ _ h => h) (Or.inl ⟨by rfl, ?_⟩) ?_ ?_
        rotate_left
        ·intro w'
         go_simp
         with_reducible rfl
        rotate_left
        ·simp only [Act.put, List.setIfInBounds_toArray, List.set_cons_zero, List.set_cons_succ, i64_w, i32_w]
         rfl
        refine pure_ (i := 1) (N := some 56) (v := ?_) (a' := ?_) #[true, true, false, false, false, false, false, false, false] rfl rfl (by kernel_rfl) (fun _ _ _ h => h) (Or.inl ⟨by rfl, ?_⟩) ?_ ?_
        rotate_left
        ·intro w'
         go_simp
         with_reducible rfl
        rotate_left
        ·simp only [Act.put, List.setIfInBounds_toArray, List.set_cons_zero, List.set_cons_succ, i64_w, i32_w]
         rfl
        refine pure_ (i := 3) (N := some 58) (v := ?_) (a' := ?_) #[true, true, false, true, false, false, false, false, false] rfl rfl (by kernel_rfl) (fun _ _ _ h => h) (Or.inl ⟨by rfl, ?_⟩) ?_ ?_
        rotate_left
        ·intro w'
         go_simp
         with_reducible rfl
        rotate_left
        ·simp only [Act.put, List.setIfInBounds_toArray, List.set_cons_zero, List.set_cons_succ, i64_w, i32_w]
         rfl
        refine take_ (i := 2) (N := some 57) (v := ?_) (a' := ?_) #[true, true, true, true, false, false, false, false, false] rfl rfl (by kernel_rfl) (fun _ _ _ h => h) (Or.inl ⟨by rfl, ?_⟩) hHeld ?_ ?_
        rotate_left
        ·intro w' s0
         go_simp
         with_reducible rfl
        rotate_left
        ·simp only [Act.put, List.setIfInBounds_toArray, List.set_cons_zero, List.set_cons_succ, i64_w, i32_w]
         rfl
        refine one_ (i := 4) (N := some 59) #[true, true, true, true, true, false, false, false, false] rfl rfl (by kernel_rfl) (by decide) (fun K hK => ?_)
        refine goesV_ Tryd.func40 (by kernel_rfl) rfl #[] #[.pointer (some ⟨be, 0, none⟩), .pointer (some ⟨bb, 0, none⟩), .pointer (some ⟨ba, 0, none⟩)] (by rfl) rfl rfl rfl y94_ ?_
        have hcall := few2_calls wt0.drew bb ba be A c l a1 e1 v2 a2 e2 k HT0.out.b HT0.out.a HT0.out.e (HC.out _ (below_drew HT0.out.B)) HCL.out HFE.out
        refine hcall.mono ?_
        clear hcall
        rintro x7 w7 ⟨rfl, hA7, hE7, hM7⟩
        refine ⟨_, rfl, ?_⟩
        have hS7 := HT0.out.few (w' := w7) hA7 hE7 ⟨hM7.os, hM7.tape, hM7.output, hM7.size, hM7.block⟩
        have hc7 : w7.cell? ⟨bp, 1, none⟩ = some (.int .i64 t) := (blk_cell hS7.p 1).trans rfl
        have hf7 := blk_frozen hS7.p 1
        have HS7 := Lib.hid hS7
        clear hA7 hE7 hM7 hS7
        refine hK.out _ _ (hc7) (fun hHeld => ?_)
        clear hK K
        refine norm_ (a' := ?_) ?_ ?_
        rotate_left
        ·show Act.put _ (some 59) _ = _
         simp only [Act.put, List.setIfInBounds_toArray, List.set_cons_zero, List.set_cons_succ, i64_w, i32_w]
         rfl
        refine pure_ (i := 5) (N := some 60) (v := ?_) (a' := ?_) #[true, true, true, true, true, true, false, false, false] rfl rfl (by kernel_rfl) (fun _ _ _ h => h) (Or.inl ⟨by rfl, ?_⟩) ?_ ?_
        rotate_left
        ·intro w'
         go_simp
         with_reducible rfl
        rotate_left
        ·simp only [Act.put, List.setIfInBounds_toArray, List.set_cons_zero, List.set_cons_succ, i64_w, i32_w]
         rfl
        refine pure_ (i := 6) (N := some 61) (v := ?_) (a' := ?_) #[true, true, true, true, true, true, true, false, false] rfl rfl (by kernel_rfl) (fun _ _ _ h => h) (Or.inl ⟨by rfl, ?_⟩) ?_ ?_
        rotate_left
        ·intro w'
         go_simp
         with_reducible rfl
        rotate_left
        ·simp only [Act.put, List.setIfInBounds_toArray, List.set_cons_zero, List.set_cons_succ, i64_w, i32_w]
         rfl
        refine pure_ (i := 7) (N := some 62) (v := ?_) (a' := ?_) #[true, true, true, true, true, true, true, true, false] rfl rfl (by kernel_rfl) (fun _ _ _ h => h) (Or.inl ⟨by rfl, ?_⟩) ?_ ?_
        rotate_left
        ·intro w'
         go_simp
         with_reducible rfl
        rotate_left
        ·simp only [Act.put, List.setIfInBounds_toArray, List.set_cons_zero, List.set_cons_succ, i64_w, i32_w]
         rfl
        refine last_ (i := 8) (N := none) #[true, true, true, true, true, true, true, true, true] rfl rfl (by kernel_rfl) (by decide) (fun K hK => ?_)
        refine skip_ (w1 := ?_) (by rfl) rfl ?_ ?_
        rotate_left
        ·go_simp
         rfl
        refine hK.out _ _ ?_
        clear hK K
        refine done_ (by kernel_rfl) ?_
        clear q17 hc7 hf7
        obtain ⟨w7b, hw7b⟩ : ∃ W', W' = w7.setCell ⟨bp, 1, none⟩ (.int .i64 (wrap64 (t + v2))) := ⟨_, rfl⟩
        have HS7b : Hid (PT w w7b bb ba be bp bq br A c l a2 e2 (rf % 4294967296) (wrap64 (t + v2)) v s (.slice Ap pts.length cp) pts) := Lib.hid (by rw [hw7b]; exact HS7.out.setT _)
        rw [← hw7b]
        clear hw7b
        go_upto_region 18 with fail
        have q18 : w7b.drew.cell? ⟨bp, 3, none⟩ = some (.int .u64 s) := (blk_cell HS7b.out.p 3).trans rfl
        refine start_ (n := 10) (S := fun w' => w'.cell? ⟨bp, 3, none⟩ = some (.int .u64 s)) (ds := [9]) #[false, false, false, false, false, false, false, false, false, false] (by kernel_rfl) rfl rfl (q18) (fun hHeld => ?_)
        refine pure_ (i := 0) (N := some 63) (v := ?_) (a' := ?_) #[true, false, false, false, false, false, false, false, false, false] rfl rfl (by kernel_rfl) (fun _ _ _ h => h) (Or.inl ⟨by rfl, ?_⟩) ?_ ?_
        rotate_left
        ·intro w'
         go_simp
         with_reducible rfl
        rotate_left
        ·simp only [Act.put, List.setIfInBounds_toArray, List.set_cons_zero, List.set_cons_succ, i64_w, i32_w]
         rfl
        refine pure_ (i := 1) (N := some 64) (v := ?_) (a' := ?_) #[true, true, false, false, false, false, false, false, false, false] rfl rfl (by kernel_rfl) (fun _ _ _ h => h) (Or.inl ⟨by rfl, ?_⟩) ?_ ?_
        rotate_left
        ·intro w'
         go_simp
         with_reducible rfl
        rotate_left
        ·simp only [Act.put, List.setIfInBounds_toArray, List.set_cons_zero, List.set_cons_succ, i64_w, i32_w]
         rfl
        refine pure_ (i := 3) (N := some 66) (v := ?_) (a' := ?_) #[true, true, false, true, false, false, false, false, false, false] rfl rfl (by kernel_rfl) (fun _ _ _ h => h) (Or.inl ⟨by rfl, ?_⟩) ?_ ?_
        rotate_left
        ·intro w'
         go_simp
         with_reducible rfl
        rotate_left
        ·simp only [Act.put, List.setIfInBounds_toArray, List.set_cons_zero, List.set_cons_succ, i64_w, i32_w]
         rfl
        refine take_ (i := 2) (N := some 65) (v := ?_) (a' := ?_) #[true, true, true, true, false, false, false, false, false, false] rfl rfl (by kernel_rfl) (fun _ _ _ h => h) (Or.inl ⟨by rfl, ?_⟩) hHeld ?_ ?_
        rotate_left
        ·intro w' s0
         go_simp
         with_reducible rfl
        rotate_left
        ·simp only [Act.put, List.setIfInBounds_toArray, List.set_cons_zero, List.set_cons_succ, i64_w, i32_w]
         rfl
        refine one_ (i := 4) (N := some 67) #[true, true, true, true, true, false, false, false, false, false] rfl rfl (by kernel_rfl) (by decide) (fun K hK => ?_)
        refine goesV_ Tryd.func40 (by kernel_rfl) rfl #[] #[.pointer (some ⟨be, 0, none⟩), .pointer (some ⟨bb, 0, none⟩), .pointer (some ⟨ba, 0, none⟩)] (by rfl) rfl rfl rfl y94_ ?_
        have hcall := few2_calls w7b.drew bb ba be A c l a2 e2 v3 a3 e3 k HS7b.out.b HS7b.out.a HS7b.out.e (HC.out _ (below_drew HS7b.out.B)) HCL.out HF3.out
        refine hcall.mono ?_
        clear hcall
        rintro x8 w8 ⟨rfl, hA8, hE8, hM8⟩
        refine ⟨_, rfl, ?_⟩
        have hS8 := HS7b.out.few (w' := w8) hA8 hE8 ⟨hM8.os, hM8.tape, hM8.output, hM8.size, hM8.block⟩
        have hc8 : w8.cell? ⟨bp, 3, none⟩ = some (.int .u64 s) := (blk_cell hS8.p 3).trans rfl
        have hf8 := blk_frozen hS8.p 3
        have HS8 := Lib.hid hS8
        clear hA8 hE8 hM8 hS8
        refine hK.out _ _ (hc8) (fun hHeld => ?_)
        clear hK K
        refine norm_ (a' := ?_) ?_ ?_
        rotate_left
        ·show Act.put _ (some 67) _ = _
         simp only [Act.put, List.setIfInBounds_toArray, List.set_cons_zero, List.set_cons_succ, i64_w, i32_w]
         rfl
        refine pure_ (i := 5) (N := some 68) (v := ?_) (a' := ?_) #[true, true, true, true, true, true, false, false, false, false] rfl rfl (by kernel_rfl) (fun _ _ _ h => h) (Or.inl ⟨by rfl, ?_⟩) ?_ ?_
        rotate_left
        ·intro w'
         go_simp
         with_reducible rfl
        rotate_left
        ·simp only [Act.put, List.setIfInBounds_toArray, List.set_cons_zero, List.set_cons_succ, i64_w, i32_w]
         rfl
        refine pure_ (i := 6) (N := some 69) (v := ?_) (a' := ?_) #[true, true, true, true, true, true, true, false, false, false] rfl rfl (by kernel_rfl) (fun _ _ _ h => h) (Or.inl ⟨by rfl, ?_⟩) ?_ ?_
        rotate_left
        ·intro w'
         go_simp
         with_reducible rfl
        rotate_left
        ·simp only [Act.put, List.setIfInBounds_toArray, List.set_cons_zero, List.set_cons_succ, i64_w, i32_w]
         rfl
        refine pure_ (i := 7) (N := some 70) (v := ?_) (a' := ?_) #[true, true, true, true, true, true, true, true, false, false] rfl rfl (by kernel_rfl) (fun _ _ _ h => h) (Or.inl ⟨by rfl, ?_⟩) ?_ ?_
        rotate_left
        ·intro w'
         go_simp
         with_reducible rfl
        rotate_left
        ·simp only [Act.put, List.setIfInBounds_toArray, List.set_cons_zero, List.set_cons_succ, i64_w, i32_w]
         rfl
        refine pure_ (i := 8) (N := some 71) (v := ?_) (a' := ?_) #[true, true, true, true, true, true, true, true, true, false] rfl rfl (by kernel_rfl) (fun _ _ _ h => h) (Or.inl ⟨by rfl, ?_⟩) ?_ ?_
        rotate_left
        ·intro w'
         go_simp
         with_reducible rfl
        rotate_left
        ·simp only [Act.put, List.setIfInBounds_toArray, List.set_cons_zero, List.set_cons_succ, i64_w, i32_w]
         rfl
        refine last_ (i := 9) (N := none) #[true, true, true, true, true, true, true, true, true, true] rfl rfl (by kernel_rfl) (by decide) (fun K hK => ?_)
        refine skip_ (w1 := ?_) (by rfl) rfl ?_ ?_
        rotate_left
        ·go_simp
         rfl
        refine hK.out _ _ ?_
        clear hK K
        refine done_ (by kernel_rfl) ?_
        clear q18 hc8 hf8
        obtain ⟨w8b, hw8b⟩ : ∃ W', W' = w8.setCell ⟨bp, 3, none⟩ (.int .u64 (IntKind.u64.wrap (s + IntKind.u64.wrap v3))) := ⟨_, rfl⟩
        have HS8b : Hid (PT w w8b bb ba be bp bq br A c l a3 e3 (rf % 4294967296) (wrap64 (t + v2)) v (IntKind.u64.wrap (s + IntKind.u64.wrap v3)) (.slice Ap pts.length cp) pts) := Lib.hid (by rw [hw8b]; exact HS8.out.setS _)
        rw [← hw8b]
        clear hw8b
        have hne3 : e3 ≠ 0 := by
         have h7 := few1_err HFE.out he1
         have h8 := few1_err HF3.out (by rw [h7]; exact he1)
         rw [h8, h7]
         exact he1
        have hb3 : (e3 == 0) = false := by simpa using hne3
        have hb4 : (e3 != 0) = true := bne_iff_ne.2 hne3
        have her : errN (errS e3 (seqN s v3)) (wrap64 ((l.length : Int) - a3)) = e3 := by unfold errN errS; rw [if_neg hne3, if_neg hne3]
        have hst := HST.out
        rw [her] at hst
        rw [if_neg hne3] at hst
        obtain rfl := Option.some.inj hst
        have hpp := HPP.out
        simp only at hpp
        rw [if_neg hne3] at hpp
        obtain rfl := Option.some.inj hpp
        have hh := HQ.out
        simp only at hh
        rw [if_neg hne3] at hh
        obtain ⟨rfl, rfl, rfl, rfl, rfl⟩ := five hh
        clear hst hpp hh her
        have qe : w8b.cell? ⟨be, 0, none⟩ = some (.int .i64 e3) := (blk_cell HS8b.out.e 0).trans rfl
        go_upto_region 24 with fail
        clear qe
        have q24 : w8b.drew.cell? ⟨be, 0, none⟩ = some (.int .i64 e3) := (blk_cell HS8b.out.e 0).trans rfl
        have hz0 := blk_frozen HS8b.out.z 0
        have hz1 := blk_frozen HS8b.out.z 1
        have hz2 := blk_frozen HS8b.out.z 2
        have hz3 := blk_frozen HS8b.out.z 3
        have hy0 : w8b.cell? ⟨br, 0, none⟩ = some (.int .i64 0) := (blk_cell HS8b.out.z 0).trans rfl
        have hy1 : w8b.cell? ⟨br, 1, none⟩ = some (.int .u32 0) := (blk_cell HS8b.out.z 1).trans rfl
        have hy2 : w8b.cell? ⟨br, 2, none⟩ = some (.slice none 0 0) := (blk_cell HS8b.out.z 2).trans rfl
        have hy3 : w8b.cell? ⟨br, 3, none⟩ = some (.slice none 0 0) := (blk_cell HS8b.out.z 3).trans rfl
        refine start_ (n := 4) (S := fun w' => w'.cell? ⟨be, 0, none⟩ = some (.int .i64 e3)) (ds := []) #[false, false, false, false] (by kernel_rfl) rfl rfl (q24) (fun hHeld => ?_)
        refine pure_ (i := 0) (N := some 91) (v := ?_) (a' := ?_) #[true, false, false, false] rfl rfl (by kernel_rfl) (fun _ _ _ h => h) (Or.inl ⟨by rfl, ?_⟩) ?_ ?_
        rotate_left
        ·intro w'
         go_simp
         with_reducible rfl
        rotate_left
        ·simp only [Act.put, List.setIfInBounds_toArray, List.set_cons_zero, List.set_cons_succ, i64_w, i32_w]
         rfl
        refine take_ (i := 1) (N := some 92) (v := ?_) (a' := ?_) #[true, true, false, false] rfl rfl (by kernel_rfl) (fun _ _ _ h => h) (Or.inl ⟨by rfl, ?_⟩) hHeld ?_ ?_
        rotate_left
        ·intro w' s0
         go_simp
         with_reducible rfl
        rotate_left
        ·simp only [Act.put, List.setIfInBounds_toArray, List.set_cons_zero, List.set_cons_succ, i64_w, i32_w]
         rfl
        refine one_ (i := 2) (N := none) #[true, true, true, false] rfl rfl (by kernel_rfl) (by decide) (fun K hK => ?_)
        refine skip_ (w1 := ?_) (by rfl) rfl ?_ ?_
        rotate_left
        ·go_simp
         rfl
        refine hK.out _ _ ((cell_far4 HS8b.out.e (ty_ne HS8b.out.e HS8b.out.z (by decide)) : _)) (fun hHeld => ?_)
        clear hK K
        refine pure_ (i := 3) (N := some 3) (v := ?_) (a' := ?_) #[true, true, true, true] rfl rfl (by kernel_rfl) (fun _ _ _ h => h) (Or.inl ⟨by rfl, ?_⟩) ?_ ?_
        rotate_left
        ·intro w'
         go_simp
         with_reducible rfl
        rotate_left
        ·simp only [Act.put, List.setIfInBounds_toArray, List.set_cons_zero, List.set_cons_succ, i64_w, i32_w]
         rfl
        refine done_ (by kernel_rfl) ?_
        go_wp2
        (try simp only [Exit.inBlock, Exit.then]); refine bodyPost_ret (results_ct rfl _ _ br 29 #[.int .i64 0, .int .u32 0, .slice none 0 0, .slice none 0 0] (0, 0) _ rfl (zero4 HS8b.out.z) Tryd.underlying29 rfl (by kernel_rfl)) rfl ?_
        exact ⟨_, _, rfl, Kd.R_nil _ _ _ _ _, Kd.R_nil _ _ _ _ _, zero4_below (below_drew HS8b.out.B) HS8b.out.lr⟩
      ·have hk0 : gk = 0 := by omega
       have hq : (0, a, pts) = q := by
        have h6 := HP.out
        rw [hk0] at h6
        exact Option.some.inj h6
       subst hq
       have hh := HQ.out
       simp only at hh
       rw [if_pos trivial] at hh
       have ca : wr.cell? ⟨ba, 0, none⟩ = some (.int .i64 a) := (blk_cell HS.out.a 0).trans rfl
       have cb : wr.cell? ⟨bb, 0, none⟩ = some (.slice A l.length c) := (blk_cell HS.out.b 0).trans rfl
       have hz0 := blk_frozen HS.out.z 0
       have hz1 := blk_frozen HS.out.z 1
       have hz2 := blk_frozen HS.out.z 2
       have hz3 := blk_frozen HS.out.z 3
       have hy0 : wr.cell? ⟨br, 0, none⟩ = some (.int .i64 0) := (blk_cell HS.out.z 0).trans rfl
       have hy1 : wr.cell? ⟨br, 1, none⟩ = some (.int .u32 0) := (blk_cell HS.out.z 1).trans rfl
       have hy2 : wr.cell? ⟨br, 2, none⟩ = some (.slice none 0 0) := (blk_cell HS.out.z 2).trans rfl
       have hy3 : wr.cell? ⟨br, 3, none⟩ = some (.slice none 0 0) := (blk_cell HS.out.z 3).trans rfl
       by_cases hal : a < (l.length : Int)
       ·rw [if_pos hal] at hh
        obtain ⟨rfl, rfl, rfl, rfl, rfl⟩ := five hh
        clear hh hk0
        go_wp2_with fail
        (try simp only [Exit.inBlock, Exit.then]); refine bodyPost_ret (results_ct rfl _ _ br 29 #[.int .i64 0, .int .u32 0, .slice none 0 0, .slice none 0 0] (0, 0) _ rfl (zero4 HS.out.z) Tryd.underlying29 rfl (by kernel_rfl)) rfl ?_
        exact ⟨_, _, rfl, Kd.R_nil _ _ _ _ _, Kd.R_nil _ _ _ _ _, zero4_below HS.out.B HS.out.lr⟩
       ·rw [if_neg hal] at hh
        obtain ⟨rfl, rfl, rfl, rfl, rfl⟩ := five hh
        clear hh hk0
        have d0 : wr.cell? ⟨bq, 0, none⟩ = some (.int .i64 2) := (blk_cell HS.out.q 0).trans rfl
        have d1 : wr.cell? ⟨bq, 1, none⟩ = some (.int .u32 0) := (blk_cell HS.out.q 1).trans rfl
        have d2 : wr.cell? ⟨bq, 2, none⟩ = some (.slice none 0 0) := (blk_cell HS.out.q 2).trans rfl
        obtain ⟨Ap, cp, hvp⟩ := Kd.R_slice HS.out.R
        subst hvp
        have d3 : wr.cell? ⟨bq, 3, none⟩ = some (.slice Ap pts.length cp) := (blk_cell HS.out.q 3).trans rfl
        go_wp2_with fail
        (try simp only [Exit.inBlock, Exit.then]); refine bodyPost_ret (results_ct rfl _ _ br 29 #[.int .i64 2, .int .u32 0, .slice none 0 0, .slice Ap pts.length cp] (0, 0) _ rfl (fill4 HS.out.z) Tryd.underlying29 rfl (by kernel_rfl)) rfl ?_
        exact ⟨_, _, rfl, Kd.R_nil _ _ _ _ _, fill4_R HS.out.R HS.out.z, zero4_below HS.out.B HS.out.lr⟩
    ·rw [if_neg hnp] at hh
     cases hh
 ·rw [if_neg he0] at hh
  obtain ⟨rfl, rfl, rfl, rfl, rfl⟩ := five hh
  clear hh
  have hne : (e0 != 0) = true := bne_iff_ne.2 he0
  go_upto_region 3 with fail
  refine start_ (n := 4) (S := fun w' => w'.cell? ⟨be, 0, none⟩ = some (.int .i64 e0)) (ds := []) #[false, false, false, false] (by kernel_rfl) rfl rfl ((ce : W3.drew.cell? ⟨be, 0, none⟩ = some (.int .i64 e0))) (fun hHeld => ?_)
  refine pure_ (i := 0) (N := some 20) (v := ?_) (a' := ?_) #[true, false, false, false] rfl rfl (by kernel_rfl) (fun _ _ _ h => h) (Or.inl ⟨by rfl, ?_⟩) ?_ ?_
  rotate_left
  ·intro w'
   go_simp
   with_reducible rfl
  rotate_left
  ·simp only [Act.put, List.setIfInBounds_toArray, List.set_cons_zero, List.set_cons_succ, i64_w, i32_w]
   rfl
  refine take_ (i := 1) (N := some 21) (v := ?_) (a' := ?_) #[true, true, false, false] rfl rfl (by kernel_rfl) (fun _ _ _ h => h) (Or.inl ⟨by rfl, ?_⟩) hHeld ?_ ?_
  rotate_left
  ·intro w' s0
   go_simp
   with_reducible rfl
  rotate_left
  ·simp only [Act.put, List.setIfInBounds_toArray, List.set_cons_zero, List.set_cons_succ, i64_w, i32_w]
   rfl
  refine one_ (i := 2) (N := none) #[true, true, true, false] rfl rfl (by kernel_rfl) (by decide) (fun K hK => ?_)
  refine skip_ (w1 := ?_) (by rfl) rfl ?_ ?_
  rotate_left
  ·go_simp
   rfl
  refine hK.out _ _ (((cell_far4 H3.out.2.2.2 (fun e => by have h8 := H3.out.2.1; rw [← e, H3.out.2.2.2] at h8; simp at h8)) : _)) (fun hHeld => ?_)
  clear hK K
  refine pure_ (i := 3) (N := some 3) (v := ?_) (a' := ?_) #[true, true, true, true] rfl rfl (by kernel_rfl) (fun _ _ _ h => h) (Or.inl ⟨by rfl, ?_⟩) ?_ ?_
  rotate_left
  ·intro w'
   go_simp
   with_reducible rfl
  rotate_left
  ·simp only [Act.put, List.setIfInBounds_toArray, List.set_cons_zero, List.set_cons_succ, i64_w, i32_w]
   rfl
  refine done_ (by kernel_rfl) ?_
  go_wp2
  (try simp only [Exit.inBlock, Exit.then]); refine bodyPost_ret (results_ct rfl _ _ br 29 #[.int .i64 0, .int .u32 0, .slice none 0 0, .slice none 0 0] (0, 0) _ rfl (zero4 H3.out.2.1) Tryd.underlying29 rfl (by kernel_rfl)) rfl ?_
  exact ⟨_, _, rfl, Kd.R_nil _ _ _ _ _, Kd.R_nil _ _ _ _ _, zero4_below (below_drew HB3.out) HLW.out.2.1⟩
end
def record_points.f (k : Nat) (l0 : List Int) : Option (Int × Int × List (S52) × List (S45) × Int) := recPoints k l0
theorem record_points.mono : ∀ a0 k, LeO (record_points.f k a0) (record_points.f (k + 1) a0) := fun a0 k => recPoints.mono a0 k
theorem record_points.calls (k : Nat) (A0 : Option Addr) (c0 : Nat) (l0 : List Int) (r1 : Int) (r2 : Int) (r3 : List (S52)) (r4 : List (S45)) (r5 : Int) (w : World) (hr0 : Kd.C (Kd.int .u8) w A0 l0.length l0) (hc0 : l0.length ≤ c0) (h : record_points.f k l0 = some (r1, r2, r3, r4, r5)) :
  Calls Tryd.prog 22 #[.slice A0 l0.length c0] w fun e w' => ∃ v2_ v3_ : Value, e = .returned (.tuple #[.agg #[.int .i64 r1, .int .u32 r2, v2_, v3_], .int .i64 r5]) ∧ Kd.R k52 52 w' w.heap.size (fun _ => True) v2_ r3 ∧ Kd.R k45 45 w' w.heap.size (fun _ => True) v3_ r4 ∧ Below w.heap.size w w' :=
 recPoints_calls k A0 c0 l0 r1 r2 r3 r4 r5 w hr0 hc0 h
end Go.Proofs.YtdckhaejhfkkbaaDoor.PRT
