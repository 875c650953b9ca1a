import Derived.Test.YtbpmgaaipkenkaaDoorCLimitSeriesG2
import Derived.Test.YtbpmgaaipkenkaaDoorCLimitSeriesM14
namespace Go.Proofs.YtbpmgaaipkenkaaDoor
open Go Go.RowKit Go.Proofs.YtbpmgaaipkenkaaDoorW.PrintWords Go.Proofs.YtbpmgaaipkenkaaDoorW.PrintLast Go.Proofs.YtbpmgaaipkenkaaDoorW.PrintMore
set_option linter.unusedVariables false
set_option linter.unusedSimpArgs false
abbrev SL := Option Addr × Nat × Nat
abbrev encS (p : SL) : Value := .slice p.1 p.2.1 p.2.2
abbrev kV : Kd SL := Kd.scalar encS (fun _ => rfl)
structure Rd (w : World) (p : SL × LS) : Prop where
  len : p.1.2.1 = p.2.length
  le : p.2.length ≤ p.1.2.2
  C : kL.C w p.1.1 p.2.length p.2
theorem Rd.ck {w w' : World} {p : SL × LS} (h : Rd w p) (hk : CK w w') : Rd w' p := ⟨h.len, h.le, C_ck hk h.C⟩
def Cmps (cmp : LS → LS → Int) (ps : List (SL × LS)) : Prop := ∀ p ∈ ps, ∀ q ∈ ps, ∃ k, PMS.labels_Compare.f k p.2 q.2 = some (cmp p.2 q.2)
theorem compare_g (W : World) (p q : SL × LS) (r : Int) (hp : Rd W p) (hq : Rd W q) (h : ∃ k, PMS.labels_Compare.f k p.2 q.2 = some r) :
    Calls Tryd.prog 45 #[encS p.1, encS q.1] W fun e w' => e = .returned (.int .i64 r) ∧ Below W.heap.size W w' := by
  obtain ⟨⟨A, n, c⟩, l⟩ := p
  obtain ⟨⟨B, m, d⟩, l2⟩ := q
  obtain ⟨k, h⟩ := h
  have e1 : n = l.length := hp.len
  have e2 : m = l2.length := hq.len
  subst e1
  subst e2
  exact PMS.labels_Compare.calls k A c l B d l2 r W hp.C hp.le hq.C hq.le h
theorem ahead_c (W : World) (p q : SL × LS) (r : Int) (hp : Rd W p) (hq : Rd W q) (h : ∃ k, PMS.labels_Compare.f k p.2 q.2 = some r) :
    Calls Tryd.prog 44 #[encS p.1, encS q.1] W fun e w' => e = .returned (.bool (decide (r < 0))) ∧ Below W.heap.size W w' := by
  go_enter Tryd.func44, Tryd.ntmps44
  go_wp2_with (go_at_call 45; (with_reducible refine (compare_g W p q r hp hq h).mono ?_); rintro e w1 ⟨rfl, hB⟩; have HB := Lib.hid hB; clear hB)
  go_ret
  exact ⟨rfl, HB.out⟩
def pos (cmp : LS → LS → Int) (x : SL × LS) (out : List (SL × LS)) : Nat → Nat
  | 0 => 0
  | n + 1 => if cmp x.2 (out.getD n x).2 < 0 then pos cmp x out n else n + 1
theorem pos_le (cmp : LS → LS → Int) (x : SL × LS) (out : List (SL × LS)) : ∀ n, pos cmp x out n ≤ n
  | 0 => Nat.le_refl _
  | n + 1 => by
    unfold pos
    split
    · exact Nat.le_trans (pos_le cmp x out n) (Nat.le_succ n)
    · exact Nat.le_refl _
def ins (cmp : LS → LS → Int) (out : List (SL × LS)) (x : SL × LS) : List (SL × LS) := out.take (pos cmp x out out.length) ++ x :: out.drop (pos cmp x out out.length)
def srt (cmp : LS → LS → Int) (l : List (SL × LS)) : List (SL × LS) := l.foldl (ins cmp) []
theorem ins_perm (cmp : LS → LS → Int) (out : List (SL × LS)) (x : SL × LS) : (ins cmp out x).Perm (x :: out) := by
  unfold ins
  refine List.perm_middle.trans ?_
  rw [List.take_append_drop]
theorem srt_perm (cmp : LS → LS → Int) : ∀ (l out : List (SL × LS)), (l.foldl (ins cmp) out).Perm (out ++ l)
  | [], out => by simp
  | x :: l, out => by
    rw [List.foldl_cons]
    refine (srt_perm cmp l _).trans ?_
    refine ((ins_perm cmp out x).append_right l).trans ?_
    exact List.perm_middle.symm
theorem srt_take (cmp : LS → LS → Int) (l : List (SL × LS)) (i : Nat) (h : i < l.length) (z : SL × LS) : srt cmp (l.take (i + 1)) = ins cmp (srt cmp (l.take i)) (l.getD i z) := by
  unfold srt
  rw [List.take_succ_eq_append_getElem h, List.foldl_append, List.getD_eq_getElem?_getD, List.getElem?_eq_getElem h]
  rfl
theorem srt_length (cmp : LS → LS → Int) (l : List (SL × LS)) : (srt cmp l).length = l.length := by
  have := (srt_perm cmp l []).length_eq
  rwa [List.nil_append] at this
theorem shift_ins {α : Type} (xs : List α) (x : α) (k : Nat) (h : k ≤ xs.length) : (Kd.shift (xs ++ [x]) k).set k x = xs.take k ++ x :: xs.drop k := by
  obtain ⟨a, b, rfl, rfl⟩ : ∃ a b, xs = a ++ b ∧ k = a.length := ⟨xs.take k, xs.drop k, (List.take_append_drop k xs).symm, by rw [List.length_take]; omega⟩
  unfold Kd.shift
  have e1 : (a ++ b ++ [x]).drop a.length = b ++ [x] := by rw [List.append_assoc, List.drop_left]
  have e2 : (a ++ b ++ [x]).take (a.length + 1) = a ++ (b ++ [x]).take 1 := by rw [List.append_assoc, List.take_length_add_append]
  have e3 : (a ++ b ++ [x]).length - (a.length + 1) = b.length := by simp only [List.length_append, List.length_singleton]; omega
  have e4 : (b ++ [x]).take b.length = b := List.take_left
  rw [e1, e2, e3, e4, List.take_left, List.drop_left, List.append_assoc, List.set_append_right _ _ (Nat.le_refl _), Nat.sub_self]
  rcases b with _ | ⟨y, b⟩ <;> simp
theorem info_ls : (Tryd.prog.info? 61).map (fun i => (i.zero, i.size, i.bytes)) = some (some (.slice none 0 0), 1, 24) := by kernel_rfl
set_option maxRecDepth 20000 in
set_option maxHeartbeats 8000000 in
theorem sorted_calls (w : World) (cmp : LS → LS → Int) (A : Option Addr) (c : Nat) (ps : List (SL × LS)) (hC : kV.C w A ps.length (ps.map (·.1))) (hc : ps.length ≤ c) (hR : ∀ p ∈ ps, Rd w p) (hl : ps.length ≤ 1000000) (hcmp : Cmps cmp ps) :
    Calls Tryd.prog 43 #[.slice A ps.length c, .func (.func 44) #[] #[]] w fun e w' =>
      ∃ v, e = .returned v ∧ kV.R 61 w' w.heap.size (fun _ => True) v ((srt cmp ps).map (·.1)) ∧ Below w.heap.size w w' := by
  have HC := Lib.hid (fun (W : World) (hW : Below w.heap.size w W) => Kd.C_below hC hW)
  have HR := Lib.hid (fun (W : World) (hW : Below w.heap.size w W) => fun p hp => (hR p hp).ck (CK.below hW))
  have HM := Lib.hid hcmp
  clear hC hR hcmp
  go_enter Tryd.func43, Tryd.ntmps43
  go_wp2
  go_loopg [5, 11] ps.length (fun kq s5 s11 wr => ∃ i : Nat, i + kq = ps.length ∧ s11 = .int .i64 (i : Int) ∧ Hid (Below w.heap.size w wr) ∧ Hid (kV.R 61 wr w.heap.size (fun _ => True) s5 ((srt cmp (ps.take i)).map (·.1))))
  case atStart => exact ⟨0, by omega, rfl, Below.refl _ _, by rw [List.take_zero]; exact Kd.R_nil _ _ _ _ _⟩
  case round =>
    obtain ⟨i, hi, rfl, hBr, hRo⟩ := hrel
    by_cases hlt : i < ps.length
    · obtain ⟨x, hx⟩ : ∃ x, x = ps.getD i ((none, 0, 0), []) := ⟨_, rfl⟩
      have hxm : x ∈ ps := by
        rw [hx, List.getD_eq_getElem?_getD, List.getElem?_eq_getElem hlt]
        exact List.getElem_mem hlt
      obtain ⟨ad, cs, hA, hcl, hK, hcell⟩ := Kd.C_get (HC.out wr hBr.out) (none, 0, 0) (i : Int) (by omega) (by omega)
      rw [Int.toNat_natCast] at hK hcell
      have hKx : cs = [encS x.1] := by
        have h1 : cs = [encS ((ps.map (·.1)).getD i (none, 0, 0))] := hK
        rw [h1, hx, List.getD_eq_getElem?_getD, List.getElem?_map, List.getElem?_eq_getElem hlt, List.getD_eq_getElem?_getD, List.getElem?_eq_getElem hlt]
        rfl
      subst hKx
      subst hA
      have hcx := hcell 0 _ rfl
      rw [show i * kV.sz + 0 = i from Nat.mul_one i] at hcx
      obtain ⟨O, hO⟩ : ∃ O, O = srt cmp (ps.take i) := ⟨_, rfl⟩
      have hOl : O.length = i := by rw [hO, srt_length, List.length_take]; omega
      have hOm : ∀ p ∈ O, p ∈ ps := fun p hp => by
        have := (srt_perm cmp (ps.take i) []).mem_iff.1 (by rw [hO] at hp; exact hp)
        exact List.mem_of_mem_take (by simpa using this)
      have hst := srt_take cmp ps i hlt ((none, 0, 0), [])
      rw [← hx, ← hO] at hst
      rw [← hO] at hRo
      have HST := Lib.hid hst
      have HXM := Lib.hid hxm
      have HOM := Lib.hid hOm
      have HOL := Lib.hid hOl
      obtain ⟨A1, c1, hs5⟩ := Kd.R_slice hRo.out
      rw [List.length_map] at hs5
      subst hs5
      have hoi : O.length ≤ 1000000 := by omega
      clear hst hxm hOm hO hx hcl hK hcell hOl
      obtain ⟨⟨XA, XN, XC⟩, xl⟩ := x
      go_wp2
      go_loopg [8] O.length (fun kq s8 wz => ∃ a : Nat, Hid (a = kq) ∧ a ≤ O.length ∧ s8 = .int .i64 (a : Int) ∧ Hid (pos cmp ((XA, XN, XC), xl) O a = pos cmp ((XA, XN, XC), xl) O O.length) ∧ Hid (Below w.heap.size w wz) ∧ Hid (kV.R 61 wz w.heap.size (fun _ => True) (.slice A1 O.length c1) (O.map (·.1))))
      case atStart => exact ⟨O.length, rfl, Nat.le_refl _, rfl, rfl, hBr.out, hRo.out⟩
      case round =>
        obtain ⟨a, hak, ha, hs8, HP, hBz, hRz⟩ := hrel
        obtain ⟨p, hpa⟩ : ∃ p : Int, p = (a : Int) := ⟨_, rfl⟩
        rw [← hpa] at hs8
        subst hs8
        rcases a with _ | b
        · obtain ⟨pn, hpn⟩ : ∃ pn : Nat, pn = 0 := ⟨_, rfl⟩
          have HPN : Hid (p = (pn : Int) ∧ pn ≤ O.length ∧ pos cmp ((XA, XN, XC), xl) O O.length = pn) := Lib.hid ⟨by rw [hpn, hpa], by omega, by rw [hpn, ← HP.out]; rfl⟩
          have hgt : ¬ 0 < p := by omega
          have HRT := hRz
          have HBT := hBz
          clear HP hBr hRo hcx hRz hBz hpa hpn
          go_wp2_with (at_builtin; go_loud (refine Kd.R_append kV (w0 := w) (W := wr) w.heap.size rfl (.tmp 31) (.tmp 33) 50 61 (.slice none 0 0) 24 rfl Tryd.underlying50 info_ls rfl (by decide) (by decide) (.slice A1 O.length c1) (O.map (fun y : SL × LS => y.1)) (XA, XN, XC) [encS (XA, XN, XC)] (fun _ => True) (fun _ => False) rfl rfl rfl (fun _ h => h.elim) (fun _ _ => trivial) HRT.out HBT.out HBT.out.size (by rw [List.length_map]; omega) ?_); go_loud (intro v8 w8 hR8 hB8 _ _; obtain ⟨g8, c8, e8, _, _, _⟩ := Kd.R_form hR8 (by simp); rw [List.length_append, List.length_map, List.length_singleton] at e8; subst e8; have HR8 := Lib.hid hR8; have HB8 := Lib.hid hB8; clear hR8 hB8))
          obtain ⟨i0, hi0, _, hsz0, _⟩ := info_parts info_ls
          obtain ⟨p1, hp1⟩ : ∃ p1, p1 = p + 1 := ⟨_, rfl⟩
          have hw1 : IntKind.i64.wrap (p + 1) = p1 := by rw [hp1]; exact IntWalk.i64_in _ (by have := HPN.out.1; have := HPN.out.2.1; omega)
          have hcut1 := cut_from (P := Tryd.prog) 50 61 .i64 Tryd.underlying50 hi0 1 hsz0 (some ⟨g8, 0, none⟩) (O.length + 1) c8 p1 (by have := HPN.out.1; omega) (by have := HPN.out.1; have := HPN.out.2.1; omega)
          have hcut0 := cut_from (P := Tryd.prog) 50 61 .i64 Tryd.underlying50 hi0 1 hsz0 (some ⟨g8, 0, none⟩) (O.length + 1) c8 p (by have := HPN.out.1; omega) (by have := HPN.out.1; have := HPN.out.2.1; omega)
          have e1 : p1.toNat = pn + 1 := by have := HPN.out.1; omega
          have e0 : p.toNat = pn := by have := HPN.out.1; omega
          rw [e1] at hcut1
          rw [e0] at hcut0
          obtain ⟨AA1, hAA1⟩ : ∃ AA1, AA1 = (if c8 = pn + 1 then some ⟨g8, 0, none⟩ else (some (⟨g8, 0, none⟩ : Addr)).map (·.add ((pn + 1) * 1))) := ⟨_, rfl⟩
          obtain ⟨AA0, hAA0⟩ : ∃ AA0, AA0 = (if c8 = pn then some ⟨g8, 0, none⟩ else (some (⟨g8, 0, none⟩ : Addr)).map (·.add (pn * 1))) := ⟨_, rfl⟩
          obtain ⟨m1, hm1⟩ : ∃ m1, m1 = O.length + 1 - (pn + 1) := ⟨_, rfl⟩
          obtain ⟨m0, hm0⟩ : ∃ m0, m0 = O.length + 1 - pn := ⟨_, rfl⟩
          rw [← hAA1, ← hm1] at hcut1
          rw [← hAA0, ← hm0] at hcut0
          have HAA := Lib.hid (And.intro hAA1 (And.intro hAA0 (And.intro hm1 hm0)))
          have HRD : Hid (kV.R 61 w8.drew w.heap.size (fun _ => True) (.slice (some ⟨g8, 0, none⟩) (O.length + 1) c8) (O.map (fun y : SL × LS => y.1) ++ [(XA, XN, XC)])) := Lib.hid (Kd.R_drew HR8.out)
          have HBD := Lib.hid (below_drew1 HB8.out)
          have HP1 := Lib.hid hp1
          clear hAA1 hAA0 hm1 hm0 e1 e0 hi0 hsz0 hp1
          refine start_ (n := 8) (S := fun w' => True) (ds := []) #[false, false, false, false, false, false, false, false] (by kernel_rfl) rfl rfl trivial (fun hHeld => ?_)
          refine pure_ (i := 0) (N := some 35) (v := ?_) (a' := ?_) #[true, false, false, false, false, false, false, false] rfl rfl (by kernel_rfl) (fun _ _ _ h => h) (Or.inl ⟨by rfl, ?_⟩) ?_ ?_
          rotate_left
          · intro w'
            go_simp
            with_reducible rfl
          rotate_left
          · simp only [Act.put, List.setIfInBounds_toArray, List.set_cons_zero, List.set_cons_succ, i64_w, i32_w]
            rfl
          refine pure_ (i := 1) (N := some 36) (v := ?_) (a' := ?_) #[true, true, false, false, false, false, false, false] rfl rfl (by kernel_rfl) (fun _ _ _ h => h) (Or.inl ⟨by rfl, ?_⟩) ?_ ?_
          rotate_left
          · intro w'
            go_simp
            with_reducible rfl
          rotate_left
          · simp only [Act.put, List.setIfInBounds_toArray, List.set_cons_zero, List.set_cons_succ, i64_w, i32_w]
            rfl
          refine pure_ (i := 2) (N := some 37) (v := ?_) (a' := ?_) #[true, true, true, false, false, false, false, false] rfl rfl (by kernel_rfl) (fun _ _ _ h => h) (Or.inl ⟨by rfl, ?_⟩) ?_ ?_
          rotate_left
          · intro w'
            go_simp
            with_reducible rfl
          rotate_left
          · simp only [Act.put, List.setIfInBounds_toArray, List.set_cons_zero, List.set_cons_succ, i64_w, i32_w]
            rfl
          refine pure_ (i := 3) (N := some 38) (v := ?_) (a' := ?_) #[true, true, true, true, false, false, false, false] rfl rfl (by kernel_rfl) (fun _ _ _ h => h) (Or.inl ⟨by rfl, ?_⟩) ?_ ?_
          rotate_left
          · intro w'
            go_simp
            with_reducible rfl
          rotate_left
          · simp only [Act.put, List.setIfInBounds_toArray, List.set_cons_zero, List.set_cons_succ, i64_w, i32_w]
            rfl
          refine pure_ (i := 4) (N := some 39) (v := ?_) (a' := ?_) #[true, true, true, true, true, false, false, false] rfl rfl (by kernel_rfl) (fun _ _ _ h => h) (Or.inl ⟨by rfl, ?_⟩) ?_ ?_
          rotate_left
          · intro w'
            go_simp
            with_reducible rfl
          rotate_left
          · simp only [Act.put, List.setIfInBounds_toArray, List.set_cons_zero, List.set_cons_succ, i64_w, i32_w]
            rfl
          refine pure_ (i := 5) (N := some 40) (v := ?_) (a' := ?_) #[true, true, true, true, true, true, false, false] rfl rfl (by kernel_rfl) (fun _ _ _ h => h) (Or.inl ⟨by rfl, ?_⟩) ?_ ?_
          rotate_left
          · intro w'
            go_simp
            with_reducible rfl
          rotate_left
          · simp only [Act.put, List.setIfInBounds_toArray, List.set_cons_zero, List.set_cons_succ, i64_w, i32_w]
            rfl
          refine pure_ (i := 6) (N := some 41) (v := ?_) (a' := ?_) #[true, true, true, true, true, true, true, false] rfl rfl (by kernel_rfl) (fun _ _ _ h => h) (Or.inl ⟨by rfl, ?_⟩) ?_ ?_
          rotate_left
          · intro w'
            go_simp
            with_reducible rfl
          rotate_left
          · simp only [Act.put, List.setIfInBounds_toArray, List.set_cons_zero, List.set_cons_succ, i64_w, i32_w]
            rfl
          refine one_ (i := 7) (N := some 42) #[true, true, true, true, true, true, true, true] rfl rfl (by kernel_rfl) (by decide) (fun K hK => ?_)
          refine Kd.R_copyshG_step kV rfl (w0 := w) w.heap.size (by rfl) (.tmp 38) (.tmp 41) 50 61 rfl Tryd.underlying50 (by kernel_rfl) (g := g8) (n := O.length + 1) (c := c8) (k := pn) rfl rfl HAA.out.1 HAA.out.2.1 HAA.out.2.2.1 HAA.out.2.2.2 HRD.out (by have := HPN.out.2.1; omega) HBD.out HBD.out.size ?_
          intro w9 hR9 hB9 hg9
          have HR9 := Lib.hid hR9
          have HB9 := Lib.hid hB9
          clear hR9 hB9
          refine hK.out _ _ trivial (fun hHeld => ?_)
          clear hK K
          refine norm_ (a' := ?_) ?_ ?_
          rotate_left
          · show Act.put _ (some 42) _ = _
            simp only [Act.put, List.setIfInBounds_toArray, List.set_cons_zero, List.set_cons_succ, i64_w, i32_w]
            rfl
          refine done_ (by kernel_rfl) ?_
          have hR9l : kV.R 61 w9 w.heap.size (fun _ => True) (.slice (some ⟨g8, 0, none⟩) (Kd.shift (O.map (fun y : SL × LS => y.1) ++ [(XA, XN, XC)]) pn).length c8) (Kd.shift (O.map (fun y : SL × LS => y.1) ++ [(XA, XN, XC)]) pn) := by
            rw [Kd.shift_length _ _ (by rw [List.length_append, List.length_map, List.length_singleton]; have := HPN.out.2.1; omega), List.length_append, List.length_map, List.length_singleton]
            exact HR9.out
          have hlen9 : (Kd.shift (O.map (fun y : SL × LS => y.1) ++ [(XA, XN, XC)]) pn).length = O.length + 1 := by
            rw [Kd.shift_length _ _ (by rw [List.length_append, List.length_map, List.length_singleton]; have := HPN.out.2.1; omega), List.length_append, List.length_map, List.length_singleton]
          obtain ⟨hcl9, hfz9⟩ := own_at_of (d := (none, 0, 0)) (Kd.own_of_R hR9l) (i := p) (by have := HPN.out.1; omega) (by rw [hlen9]; have := HPN.out.1; have := HPN.out.2.1; omega)
          obtain ⟨g9lo, hg9lo⟩ : ∃ u, u = encS (rdOf (none, 0, 0) (Kd.shift (O.map (fun y : SL × LS => y.1) ++ [(XA, XN, XC)]) pn) p) := ⟨_, rfl⟩
          rw [← hg9lo] at hcl9
          have hg8w : w.heap.size ≤ g8 := Kd.R_base HR9.out g8 rfl
          clear hg9lo hR9l hlen9
          have h0p : 0 ≤ p := by have := HPN.out.1; omega
          have h1p : p < (O.length : Int) + 1 := by have := HPN.out.1; have := HPN.out.2.1; omega
          have HPT : Hid (p.toNat = pn) := Lib.hid (by have := HPN.out.1; omega)
          clear hw1 hcut1 hcut0
          go_wp2_with fail
          go_roundg (ps.length - (i + 1))
          case measure => omega
          case rel =>
            have hput := Kd.R_putn HR9.out p (XA, XN, XC)
            have hfin : (Kd.shift (O.map (fun y : SL × LS => y.1) ++ [(XA, XN, XC)]) pn).set p.toNat (XA, XN, XC) = (srt cmp (ps.take (i + 1))).map (·.1) := by
              rw [HPT.out, shift_ins _ _ _ (by rw [List.length_map]; exact HPN.out.2.1), HST.out]
              unfold ins
              rw [HPN.out.2.2, List.map_append, List.map_cons, List.map_take, List.map_drop]
            rw [hfin] at hput
            have hlen : (O.length + 1 : Nat) = (srt cmp (ps.take (i + 1))).length := by
              rw [srt_length, List.length_take]
              have := HOL.out
              omega
            exact ⟨i + 1, by omega, by go_num, HB9.out.setCell (p := ⟨g8, p.toNat, none⟩) hg8w _, hput⟩
        · obtain ⟨q, hq⟩ : ∃ q, q = O.getD b ((XA, XN, XC), xl) := ⟨_, rfl⟩
          have hqm : q ∈ O := by
            rw [hq, List.getD_eq_getElem?_getD, List.getElem?_eq_getElem (by omega)]
            exact List.getElem_mem (by omega)
          have hRz1 : kV.R 61 wr w.heap.size (fun _ => True) (.slice A1 (O.map (·.1)).length c1) (O.map (·.1)) := by rw [List.length_map]; exact hRz.out
          obtain ⟨A2, c2, e2, hle, hrow⟩ := Kd.R_reads hRz1
          obtain ⟨rfl, -, rfl⟩ := Value.slice.inj e2
          obtain ⟨ad2, cs, hA, hcl, hK, hcell⟩ := ReadsRow.get_ hrow (none, 0, 0) (b : Int) (by omega) (by rw [List.length_map]; omega)
          rw [Int.toNat_natCast] at hK hcell
          have hKq : cs = [encS q.1] := by
            have h1 : cs = [encS ((O.map (·.1)).getD b (none, 0, 0))] := hK
            rw [h1, hq, List.getD_eq_getElem?_getD, List.getElem?_map, List.getElem?_eq_getElem (by omega : b < O.length), List.getD_eq_getElem?_getD, List.getElem?_eq_getElem (by omega)]
            rfl
          subst hKq
          subst hA
          have hcq := hcell 0 _ rfl
          rw [show b * kV.sz + 0 = b from Nat.mul_one b] at hcq
          obtain ⟨r, hr⟩ : ∃ r, r = cmp xl q.2 := ⟨_, rfl⟩
          have hce := HM.out _ HXM.out _ (HOM.out q hqm)
          rw [← hr] at hce
          have hpos : pos cmp ((XA, XN, XC), xl) O (b + 1) = if r < 0 then pos cmp ((XA, XN, XC), xl) O b else b + 1 := by
            rw [hr, hq]
            rfl
          have HCE := Lib.hid (And.intro hce (And.intro (HOM.out q hqm) hpos))
          have hw : IntKind.i64.wrap (p - 1) = (b : Int) := by rw [hpa, show ((b + 1 : Nat) : Int) - 1 = (b : Int) by omega]; exact IntWalk.i64_in _ (by omega)
          have hgt : 0 < p := by omega
          clear hce hpos hr hq hqm hRz1 hle hrow hcl hK hcell e2
          obtain ⟨⟨QA, QN, QC⟩, ql⟩ := q
          have HPA := Lib.hid hpa
          clear hBr hRo hcx hpa
          by_cases hr0 : r < 0
          · go_wp2_with (go_at_call 44; (with_reducible refine (ahead_c wr ((XA, XN, XC), xl) ((QA, QN, QC), ql) r (HR.out wr hBz.out _ HXM.out) (HR.out wr hBz.out _ HCE.out.2.1) HCE.out.1).mono ?_); rintro e w3 ⟨rfl, hB3⟩; have HR3 := Lib.hid (Kd.R_below hRz.out hB3); have HB3 := Lib.hid (hBz.out.trans (lower_m hB3 hBz.out.size)); clear hB3)
            go_roundg (gk - 1)
            case measure => have := hak.out; omega
            case rel => exact ⟨b, (by have := hak.out; omega : b = gk - 1), by omega, rfl, (by rw [← HP.out, HCE.out.2.2, if_pos hr0] : pos cmp ((XA, XN, XC), xl) O b = pos cmp ((XA, XN, XC), xl) O O.length), HB3.out, HR3.out⟩
          · have HRN := Lib.hid hr0
            go_upto_region 8 with (go_at_call 44; (with_reducible refine (ahead_c wr ((XA, XN, XC), xl) ((QA, QN, QC), ql) r (HR.out wr hBz.out _ HXM.out) (HR.out wr hBz.out _ HCE.out.2.1) HCE.out.1).mono ?_); rintro e w3 ⟨rfl, hB3⟩; have HRT := Lib.hid (Kd.R_below hRz.out hB3); have HBT := Lib.hid (hBz.out.trans (lower_m hB3 hBz.out.size)); clear hB3)
            obtain ⟨pn, hpn⟩ : ∃ pn : Nat, pn = b + 1 := ⟨_, rfl⟩
            have HPN : Hid (p = (pn : Int) ∧ pn ≤ O.length ∧ pos cmp ((XA, XN, XC), xl) O O.length = pn) := Lib.hid ⟨by rw [hpn, HPA.out], by omega, by rw [hpn, ← HP.out, HCE.out.2.2, if_neg (by have := HRN.out; omega)]⟩
            clear HP hpn hRz hBz hcq hw
            go_wp2_with (at_builtin; go_loud (refine Kd.R_append kV (w0 := w) (W := w3) w.heap.size rfl (.tmp 31) (.tmp 33) 50 61 (.slice none 0 0) 24 rfl Tryd.underlying50 info_ls rfl (by decide) (by decide) (.slice (some ad2) O.length c1) (O.map (fun y : SL × LS => y.1)) (XA, XN, XC) [encS (XA, XN, XC)] (fun _ => True) (fun _ => False) rfl rfl rfl (fun _ h => h.elim) (fun _ _ => trivial) HRT.out HBT.out HBT.out.size (by rw [List.length_map]; omega) ?_); go_loud (intro v8 w8 hR8 hB8 _ _; obtain ⟨g8, c8, e8, _, _, _⟩ := Kd.R_form hR8 (by simp); rw [List.length_append, List.length_map, List.length_singleton] at e8; subst e8; have HR8 := Lib.hid hR8; have HB8 := Lib.hid hB8; clear hR8 hB8))
            obtain ⟨i0, hi0, _, hsz0, _⟩ := info_parts info_ls
            obtain ⟨p1, hp1⟩ : ∃ p1, p1 = p + 1 := ⟨_, rfl⟩
            have hw1 : IntKind.i64.wrap (p + 1) = p1 := by rw [hp1]; exact IntWalk.i64_in _ (by have := HPN.out.1; have := HPN.out.2.1; omega)
            have hcut1 := cut_from (P := Tryd.prog) 50 61 .i64 Tryd.underlying50 hi0 1 hsz0 (some ⟨g8, 0, none⟩) (O.length + 1) c8 p1 (by have := HPN.out.1; omega) (by have := HPN.out.1; have := HPN.out.2.1; omega)
            have hcut0 := cut_from (P := Tryd.prog) 50 61 .i64 Tryd.underlying50 hi0 1 hsz0 (some ⟨g8, 0, none⟩) (O.length + 1) c8 p (by have := HPN.out.1; omega) (by have := HPN.out.1; have := HPN.out.2.1; omega)
            have e1 : p1.toNat = pn + 1 := by have := HPN.out.1; omega
            have e0 : p.toNat = pn := by have := HPN.out.1; omega
            rw [e1] at hcut1
            rw [e0] at hcut0
            obtain ⟨AA1, hAA1⟩ : ∃ AA1, AA1 = (if c8 = pn + 1 then some ⟨g8, 0, none⟩ else (some (⟨g8, 0, none⟩ : Addr)).map (·.add ((pn + 1) * 1))) := ⟨_, rfl⟩
            obtain ⟨AA0, hAA0⟩ : ∃ AA0, AA0 = (if c8 = pn then some ⟨g8, 0, none⟩ else (some (⟨g8, 0, none⟩ : Addr)).map (·.add (pn * 1))) := ⟨_, rfl⟩
            obtain ⟨m1, hm1⟩ : ∃ m1, m1 = O.length + 1 - (pn + 1) := ⟨_, rfl⟩
            obtain ⟨m0, hm0⟩ : ∃ m0, m0 = O.length + 1 - pn := ⟨_, rfl⟩
            rw [← hAA1, ← hm1] at hcut1
            rw [← hAA0, ← hm0] at hcut0
            have HAA := Lib.hid (And.intro hAA1 (And.intro hAA0 (And.intro hm1 hm0)))
            have HRD : Hid (kV.R 61 w8.drew w.heap.size (fun _ => True) (.slice (some ⟨g8, 0, none⟩) (O.length + 1) c8) (O.map (fun y : SL × LS => y.1) ++ [(XA, XN, XC)])) := Lib.hid (Kd.R_drew HR8.out)
            have HBD := Lib.hid (below_drew1 HB8.out)
            have HP1 := Lib.hid hp1
            clear hAA1 hAA0 hm1 hm0 e1 e0 hi0 hsz0 hp1
            refine start_ (n := 8) (S := fun w' => True) (ds := []) #[false, false, false, false, false, false, false, false] (by kernel_rfl) rfl rfl trivial (fun hHeld => ?_)
            refine pure_ (i := 0) (N := some 35) (v := ?_) (a' := ?_) #[true, false, false, false, false, false, false, false] rfl rfl (by kernel_rfl) (fun _ _ _ h => h) (Or.inl ⟨by rfl, ?_⟩) ?_ ?_
            rotate_left
            · intro w'
              go_simp
              with_reducible rfl
            rotate_left
            · simp only [Act.put, List.setIfInBounds_toArray, List.set_cons_zero, List.set_cons_succ, i64_w, i32_w]
              rfl
            refine pure_ (i := 1) (N := some 36) (v := ?_) (a' := ?_) #[true, true, false, false, false, false, false, false] rfl rfl (by kernel_rfl) (fun _ _ _ h => h) (Or.inl ⟨by rfl, ?_⟩) ?_ ?_
            rotate_left
            · intro w'
              go_simp
              with_reducible rfl
            rotate_left
            · simp only [Act.put, List.setIfInBounds_toArray, List.set_cons_zero, List.set_cons_succ, i64_w, i32_w]
              rfl
            refine pure_ (i := 2) (N := some 37) (v := ?_) (a' := ?_) #[true, true, true, false, false, false, false, false] rfl rfl (by kernel_rfl) (fun _ _ _ h => h) (Or.inl ⟨by rfl, ?_⟩) ?_ ?_
            rotate_left
            · intro w'
              go_simp
              with_reducible rfl
            rotate_left
            · simp only [Act.put, List.setIfInBounds_toArray, List.set_cons_zero, List.set_cons_succ, i64_w, i32_w]
              rfl
            refine pure_ (i := 3) (N := some 38) (v := ?_) (a' := ?_) #[true, true, true, true, false, false, false, false] rfl rfl (by kernel_rfl) (fun _ _ _ h => h) (Or.inl ⟨by rfl, ?_⟩) ?_ ?_
            rotate_left
            · intro w'
              go_simp
              with_reducible rfl
            rotate_left
            · simp only [Act.put, List.setIfInBounds_toArray, List.set_cons_zero, List.set_cons_succ, i64_w, i32_w]
              rfl
            refine pure_ (i := 4) (N := some 39) (v := ?_) (a' := ?_) #[true, true, true, true, true, false, false, false] rfl rfl (by kernel_rfl) (fun _ _ _ h => h) (Or.inl ⟨by rfl, ?_⟩) ?_ ?_
            rotate_left
            · intro w'
              go_simp
              with_reducible rfl
            rotate_left
            · simp only [Act.put, List.setIfInBounds_toArray, List.set_cons_zero, List.set_cons_succ, i64_w, i32_w]
              rfl
            refine pure_ (i := 5) (N := some 40) (v := ?_) (a' := ?_) #[true, true, true, true, true, true, false, false] rfl rfl (by kernel_rfl) (fun _ _ _ h => h) (Or.inl ⟨by rfl, ?_⟩) ?_ ?_
            rotate_left
            · intro w'
              go_simp
              with_reducible rfl
            rotate_left
            · simp only [Act.put, List.setIfInBounds_toArray, List.set_cons_zero, List.set_cons_succ, i64_w, i32_w]
              rfl
            refine pure_ (i := 6) (N := some 41) (v := ?_) (a' := ?_) #[true, true, true, true, true, true, true, false] rfl rfl (by kernel_rfl) (fun _ _ _ h => h) (Or.inl ⟨by rfl, ?_⟩) ?_ ?_
            rotate_left
            · intro w'
              go_simp
              with_reducible rfl
            rotate_left
            · simp only [Act.put, List.setIfInBounds_toArray, List.set_cons_zero, List.set_cons_succ, i64_w, i32_w]
              rfl
            refine one_ (i := 7) (N := some 42) #[true, true, true, true, true, true, true, true] rfl rfl (by kernel_rfl) (by decide) (fun K hK => ?_)
            refine Kd.R_copyshG_step kV rfl (w0 := w) w.heap.size (by rfl) (.tmp 38) (.tmp 41) 50 61 rfl Tryd.underlying50 (by kernel_rfl) (g := g8) (n := O.length + 1) (c := c8) (k := pn) rfl rfl HAA.out.1 HAA.out.2.1 HAA.out.2.2.1 HAA.out.2.2.2 HRD.out (by have := HPN.out.2.1; omega) HBD.out HBD.out.size ?_
            intro w9 hR9 hB9 hg9
            have HR9 := Lib.hid hR9
            have HB9 := Lib.hid hB9
            clear hR9 hB9
            refine hK.out _ _ trivial (fun hHeld => ?_)
            clear hK K
            refine norm_ (a' := ?_) ?_ ?_
            rotate_left
            · show Act.put _ (some 42) _ = _
              simp only [Act.put, List.setIfInBounds_toArray, List.set_cons_zero, List.set_cons_succ, i64_w, i32_w]
              rfl
            refine done_ (by kernel_rfl) ?_
            have hR9l : kV.R 61 w9 w.heap.size (fun _ => True) (.slice (some ⟨g8, 0, none⟩) (Kd.shift (O.map (fun y : SL × LS => y.1) ++ [(XA, XN, XC)]) pn).length c8) (Kd.shift (O.map (fun y : SL × LS => y.1) ++ [(XA, XN, XC)]) pn) := by
              rw [Kd.shift_length _ _ (by rw [List.length_append, List.length_map, List.length_singleton]; have := HPN.out.2.1; omega), List.length_append, List.length_map, List.length_singleton]
              exact HR9.out
            have hlen9 : (Kd.shift (O.map (fun y : SL × LS => y.1) ++ [(XA, XN, XC)]) pn).length = O.length + 1 := by
              rw [Kd.shift_length _ _ (by rw [List.length_append, List.length_map, List.length_singleton]; have := HPN.out.2.1; omega), List.length_append, List.length_map, List.length_singleton]
            obtain ⟨hcl9, hfz9⟩ := own_at_of (d := (none, 0, 0)) (Kd.own_of_R hR9l) (i := p) (by have := HPN.out.1; omega) (by rw [hlen9]; have := HPN.out.1; have := HPN.out.2.1; omega)
            obtain ⟨g9lo, hg9lo⟩ : ∃ u, u = encS (rdOf (none, 0, 0) (Kd.shift (O.map (fun y : SL × LS => y.1) ++ [(XA, XN, XC)]) pn) p) := ⟨_, rfl⟩
            rw [← hg9lo] at hcl9
            have hg8w : w.heap.size ≤ g8 := Kd.R_base HR9.out g8 rfl
            clear hg9lo hR9l hlen9
            have h0p : 0 ≤ p := by have := HPN.out.1; omega
            have h1p : p < (O.length : Int) + 1 := by have := HPN.out.1; have := HPN.out.2.1; omega
            have HPT : Hid (p.toNat = pn) := Lib.hid (by have := HPN.out.1; omega)
            clear hw1 hcut1 hcut0
            go_wp2_with fail
            go_roundg (ps.length - (i + 1))
            case measure => omega
            case rel =>
              have hput := Kd.R_putn HR9.out p (XA, XN, XC)
              have hfin : (Kd.shift (O.map (fun y : SL × LS => y.1) ++ [(XA, XN, XC)]) pn).set p.toNat (XA, XN, XC) = (srt cmp (ps.take (i + 1))).map (·.1) := by
                rw [HPT.out, shift_ins _ _ _ (by rw [List.length_map]; exact HPN.out.2.1), HST.out]
                unfold ins
                rw [HPN.out.2.2, List.map_append, List.map_cons, List.map_take, List.map_drop]
              rw [hfin] at hput
              have hlen : (O.length + 1 : Nat) = (srt cmp (ps.take (i + 1))).length := by
                rw [srt_length, List.length_take]
                have := HOL.out
                omega
              exact ⟨i + 1, by omega, by go_num, HB9.out.setCell (p := ⟨g8, p.toNat, none⟩) hg8w _, hput⟩
    · go_wp2
      go_ret
      refine ⟨_, rfl, ?_, hBr.out⟩
      have := hRo.out
      rwa [List.take_of_length_le (by omega)] at this
end Go.Proofs.YtbpmgaaipkenkaaDoor
