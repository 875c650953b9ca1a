import Derived.Test.YtbpmgaaipkenkaaDoorCLimitSeriesPMSx0
import Derived.Test.YtbpmgaaipkenkaaDoorCLimitSeriesPMSx2
import Derived.Test.YtbpmgaaipkenkaaDoorCLimitSeriesPMSx3
import Derived.Test.YtbpmgaaipkenkaaDoorCLimitSeriesPMSx4
section
namespace Go.Proofs.YtbpmgaaipkenkaaDoor
open Go Go.RowKit Go.Proofs.YtbpmgaaipkenkaaDoorW.PrintWords Go.Proofs.YtbpmgaaipkenkaaDoorW.PrintLast Go.Proofs.YtbpmgaaipkenkaaDoorW.PrintMore
set_option linter.unusedVariables false
set_option linter.unusedSimpArgs false
attribute [local go_sem ↓] Go.wp_at_zero Go.wp_at_succ
abbrev LS := List PMS.S66
abbrev kL : Kd PMS.S66 := PMS.k66
def CK (w w' : World) : Prop := ∀ (a : Addr) (v : Value), w.cell? a = some v → w'.cell? a = some v
theorem CK.refl (w : World) : CK w w := fun _ _ h => h
theorem CK.trans {a b c : World} (h : CK a b) (g : CK b c) : CK a c := fun x v hx => g x v (h x v hx)
theorem cell_heap {w w' : World} (a : Addr) (h : w'.heap[a.block]? = w.heap[a.block]?) : w'.cell? a = w.cell? a := by
  unfold World.cell?
  rw [h]
theorem CK.below {w w' : World} (h : Below w.heap.size w w') : CK w w' := fun a v hv => by
  have hlt : a.block < w.heap.size := by
    rcases Nat.lt_or_ge a.block w.heap.size with h2 | h2
    · exact h2
    · unfold World.cell? at hv
      rw [Array.getElem?_eq_none h2] at hv
      cases hv
  rw [cell_heap a (h.block _ hlt)]
  exact hv
theorem CK.set {w : World} {r : Nat} {o o' : Obj} (hr : w.heap[r]? = some o) (hn : ∀ a : Addr, a.block = r → w.cell? a = none) : CK w (setO w r o') := fun a v hv => by
  have hne : a.block ≠ r := fun e => by
    rw [hn a e] at hv
    cases hv
  rw [cell_heap a (setO_far w r a.block o' hne)]
  exact hv
theorem map_nocell {w : World} {r c : Nat} {es : Array MapEntry} (h : w.heap[r]? = some (.map es c)) (a : Addr) (ha : a.block = r) : w.cell? a = none := by
  unfold World.cell?
  rw [ha, h]
theorem iter_nocell {w : World} {r s c : Nat} {m : Option Nat} {seen : Array Nat} (h : w.heap[r]? = some (.mapIter m s seen c)) (a : Addr) (ha : a.block = r) : w.cell? a = none := by
  unfold World.cell?
  rw [ha, h]
theorem CK.mapset {w : World} {b : Nat} {l : List PV} {o : Obj} (h : SM w b l) : CK w (setO w b o) := by
  obtain ⟨es, c, h1, _⟩ := h
  exact CK.set h1 (map_nocell h1)
theorem CK.iterset {w : World} {it b : Nat} {l : List PV} {o : Obj} (h : IT w it b l) : CK w (setO w it o) := by
  obtain ⟨s, n, c0, es, c, h1, _⟩ := h
  exact CK.set h1 (iter_nocell h1)
theorem C_ck {w w' : World} (hk : CK w w') {A : Option Addr} {n : Nat} {l : LS} (h : kL.C w A n l) : kL.C w' A n l := by
  obtain ⟨h1, h2, h3⟩ := h
  refine ⟨h1, h2, fun hn => ?_⟩
  obtain ⟨ad, e, hc⟩ := h3 hn
  refine ⟨ad, e, fun j p hj => ?_⟩
  obtain ⟨c, hl, hK, hcell⟩ := hc j p hj
  obtain rfl := PMS.k66_open hK
  exact ⟨_, rfl, PMS.k66_mk w' p, fun i u hu => hk _ _ (hcell i u hu)⟩
theorem own_all (W : World) (A : Option Addr) (c : Nat) (l : LS) (hC : kL.C W A l.length l) (hc : l.length ≤ c) (hl : l.length < 4398046511104) :
    Calls Tryd.prog 42 #[.slice A l.length c] W fun e w' => ∃ (x : Addr) (c' : Nat), e = .returned (.slice (some x) l.length c') ∧ l.length ≤ c' ∧ kL.C w' (some x) l.length l ∧ Below W.heap.size W w' := by
  rcases l with _ | ⟨y, l⟩
  · refine (own_nil_c W A c).mono ?_
    rintro e w' ⟨x, c', rfl, hB⟩
    exact ⟨x, c', rfl, Nat.zero_le _, ⟨rfl, by decide, fun h => absurd h (by decide)⟩, hB⟩
  · have hf : PMS.limit_own.f (y :: l) = some (y :: l) := by
      unfold PMS.limit_own.f
      rw [Option.bind_some, if_pos (by simpa using hl)]
      rfl
    refine (PMS.limit_own.calls A c (y :: l) (y :: l) W hC hc hf).mono ?_
    rintro e w' ⟨v, rfl, hR, hB⟩
    obtain ⟨x, c', rfl⟩ := Kd.R_slice1 hR (by simp)
    obtain ⟨A2, c2, e2, h2, h3⟩ := Kd.R_reads hR
    obtain ⟨rfl, -, rfl⟩ := Value.slice.inj e2
    exact ⟨x, c', rfl, h2, h3, hB⟩
structure Ent (rt : LS → Int) (nm : LS → ByteArray) (w : World) (p : PV) : Prop where
  out : ∃ (ls : LS) (x : Addr) (c : Nat), p.2 = .slice (some x) ls.length c ∧ ls.length ≤ c ∧ kL.C w (some x) ls.length ls ∧ rt ls = 0 ∧ nm ls = p.1
theorem Ent.ck {rt : LS → Int} {nm : LS → ByteArray} {w w' : World} {p : PV} (h : Ent rt nm w p) (hk : CK w w') : Ent rt nm w' p := by
  obtain ⟨ls, x, c, h1, h2, h3, h4⟩ := h.out
  exact ⟨⟨ls, x, c, h1, h2, C_ck hk h3, h4⟩⟩
def firstBad (rt : LS → Int) : List LS → Int
  | [] => 0
  | x :: l => if rt x = 0 then firstBad rt l else rt x
open Classical in
noncomputable def addK (nm : LS → ByteArray) (old : List ByteArray) (acc : List ByteArray) (x : LS) : List ByteArray := if nm x ∈ old ∨ nm x ∈ acc then acc else acc ++ [nm x]
noncomputable def freshK (nm : LS → ByteArray) (old : List ByteArray) (l : List LS) : List ByteArray := l.foldl (addK nm old) []
theorem addK_in {nm : LS → ByteArray} {old acc : List ByteArray} {x : LS} (h : nm x ∈ old ∨ nm x ∈ acc) : addK nm old acc x = acc := if_pos h
theorem addK_new {nm : LS → ByteArray} {old acc : List ByteArray} {x : LS} (h : ¬ (nm x ∈ old ∨ nm x ∈ acc)) : addK nm old acc x = acc ++ [nm x] := if_neg h
theorem freshK_take (nm : LS → ByteArray) (old : List ByteArray) (xs : List LS) (i : Nat) (h : i < xs.length) : freshK nm old (xs.take (i + 1)) = addK nm old (freshK nm old (xs.take i)) (xs.getD i []) := by
  unfold freshK
  rw [List.take_succ_eq_append_getElem h, List.foldl_append, List.getD_eq_getElem?_getD, List.getElem?_eq_getElem h]
  rfl
theorem freshK_nodup (nm : LS → ByteArray) (old : List ByteArray) : ∀ (l : List LS) (acc : List ByteArray), acc.Nodup → (∀ k ∈ acc, k ∉ old) → (l.foldl (addK nm old) acc).Nodup ∧ ∀ k ∈ l.foldl (addK nm old) acc, k ∉ old
  | [], acc, h1, h2 => ⟨h1, h2⟩
  | x :: l, acc, h1, h2 => by
    rw [List.foldl_cons]
    by_cases h : nm x ∈ old ∨ nm x ∈ acc
    · rw [addK_in h]
      exact freshK_nodup nm old l acc h1 h2
    · rw [addK_new h]
      refine freshK_nodup nm old l _ (List.nodup_append.2 ⟨h1, by simp, ?_⟩) (fun k hk => ?_)
      · intro a ha d hd e
        rw [List.mem_singleton.1 hd] at e
        exact h (.inr (e ▸ ha))
      · rcases List.mem_append.1 hk with hk | hk
        · exact h2 k hk
        · rw [List.mem_singleton.1 hk]
          exact fun hh => h (.inl hh)
theorem freshK_len (nm : LS → ByteArray) (old : List ByteArray) : ∀ (l : List LS) (acc : List ByteArray), (l.foldl (addK nm old) acc).length ≤ acc.length + l.length
  | [], acc => Nat.le_refl _
  | x :: l, acc => by
    rw [List.foldl_cons]
    refine Nat.le_trans (freshK_len nm old l _) ?_
    unfold addK
    split
    · rw [List.length_cons]; omega
    · rw [List.length_append, List.length_singleton, List.length_cons]; omega
theorem firstBad_take {rt : LS → Int} {xs : List LS} {i : Nat} (h : ∀ j, j < i → rt (xs.getD j []) = 0) (hi : i ≤ xs.length) : firstBad rt xs = firstBad rt (xs.drop i) := by
  induction i with
  | zero => rfl
  | succ i ih =>
    rw [ih (fun j hj => h j (by omega)) (by omega), List.drop_eq_getElem_cons (by omega : i < xs.length)]
    have := h i (by omega)
    rw [List.getD_eq_getElem?_getD, List.getElem?_eq_getElem (by omega : i < xs.length)] at this
    simp only [firstBad, if_pos (show rt xs[i] = 0 from this)]
def Adm (rt : LS → Int) (nm : LS → ByteArray) (l : List PV) (xs : List LS) (most : Int) (n er : Int) (l' : List PV) : Prop :=
  (firstBad rt xs ≠ 0 ∧ n = 0 ∧ er = firstBad rt xs ∧ l' = l) ∨
  (firstBad rt xs = 0 ∧ freshK nm (l.map (·.1)) xs = [] ∧ n = 0 ∧ er = 0 ∧ l' = l) ∨
  (firstBad rt xs = 0 ∧ freshK nm (l.map (·.1)) xs ≠ [] ∧ (most < 0 ∨ most < l.length + (freshK nm (l.map (·.1)) xs).length) ∧ n = 0 ∧ er = 5 ∧ l' = l) ∨
  (firstBad rt xs = 0 ∧ freshK nm (l.map (·.1)) xs ≠ [] ∧ 0 ≤ most ∧ l.length + (freshK nm (l.map (·.1)) xs).length ≤ most ∧ n = (freshK nm (l.map (·.1)) xs).length ∧ er = 0 ∧ (l'.map (·.1)).Perm (l.map (·.1) ++ freshK nm (l.map (·.1)) xs))
end Go.Proofs.YtbpmgaaipkenkaaDoor
end
section
namespace Go.Proofs.YtbpmgaaipkenkaaDoor
open Go Go.RowKit Go.Proofs.YtbpmgaaipkenkaaDoorW.PrintWords Go.Proofs.YtbpmgaaipkenkaaDoorW.PrintLast Go.Proofs.YtbpmgaaipkenkaaDoorW.PrintMore
set_option linter.unusedVariables false
set_option linter.unusedSimpArgs false
attribute [local go_sem ↓] Go.wp_at_zero Go.wp_at_succ
abbrev kLL : Kd LS := Kd.slice 66 kL
theorem row_at {W : World} {A : Option Addr} {xs : List LS} (h : kLL.C W A xs.length xs) {i : Nat} (hi : i < xs.length) :
    ∃ ad Ai ci, A = some ad ∧ W.cell? (ad.add i) = some (.slice Ai (xs.getD i []).length ci) ∧ (xs.getD i []).length ≤ ci ∧ kL.C W Ai (xs.getD i []).length (xs.getD i []) := by
  obtain ⟨ad, c, e, hl, hK, hcell⟩ := Kd.C_get h [] (i : Int) (by omega) (by omega)
  rw [Int.toNat_natCast] at hK hcell
  obtain ⟨Ai, ci, rfl, h1, h2⟩ := hK
  refine ⟨ad, Ai, ci, e, ?_, h1, h2⟩
  have := hcell 0 _ rfl
  rw [show i * kLL.sz + 0 = i from Nat.mul_one i] at this
  exact this
theorem right_g (W : World) (hT : Tab W) (A : Option Addr) (c : Nat) (x : LS) (r : Int) (hC : kL.C W A x.length x) (hc : x.length ≤ c) (h : ∃ k, PMS.labels_Right.f k x = some r) :
    Calls Tryd.prog 40 #[.slice A x.length c] W fun e w' => e = .returned (.int .i64 r) ∧ Below W.heap.size W w' := by
  obtain ⟨k, h⟩ := h
  exact PMS.labels_Right.calls k A c x r W ⟨hT⟩ hC hc h
theorem print_g (W : World) (A : Option Addr) (c : Nat) (x : LS) (s : ByteArray) (hC : kL.C W A x.length x) (hc : x.length ≤ c) (h : ∃ k, PMS.labels_Print.f k x = some s) :
    Calls Tryd.prog 41 #[.slice A x.length c] W fun e w' => e = .returned (.string s) ∧ Below W.heap.size W w' := by
  obtain ⟨k, h⟩ := h
  exact PMS.labels_Print.calls k A c x s W hC hc h
structure L4 (rt : LS → Int) (nm : LS → ByteArray) (w wr : World) (g b fb it : Nat) (l f done left : List PV) : Prop where
  qi : IT wr it fb left
  qb : SM wr b (l ++ done)
  qf : SM wr fb f
  qp : f.Perm (done ++ left)
  qe : ∀ p ∈ l ++ f, Ent rt nm wr p
  qg : wr.heap[g]? = some (.cells #[.map (some b)] 72 (0, 0))
  qm : Mod (fun k => k = b) w wr
  qw : w.heap.size ≤ it
set_option maxRecDepth 20000 in
set_option maxHeartbeats 8000000 in
theorem admit_gen (w : World) (hT : Tab w) (rt : LS → Int) (nm : LS → ByteArray) (g b : Nat) (l : List PV) (A : Option Addr) (c : Nat) (xs : List LS) (most : Int)
    (hg : w.heap[g]? = some (.cells #[.map (some b)] 72 (0, 0))) (hb : SM w b l) (hent : ∀ p ∈ l, Ent rt nm w p) (hC : kLL.C w A xs.length xs)
    (hxl : xs.length ≤ 1000000) (hll : l.length ≤ 1000000) (hm0 : -9223372036854775808 ≤ most) (hm1 : most ≤ 9223372036854775807)
    (hrt : ∀ x ∈ xs, x.length < 4398046511104 ∧ (∃ k, PMS.labels_Right.f k x = some (rt x)) ∧ (rt x = 0 → ∃ k, PMS.labels_Print.f k x = some (nm x))) :
    Calls Tryd.prog 30 #[.pointer (some ⟨g, 0, none⟩), .slice A xs.length c, .int .i64 most] w fun e w' =>
      ∃ (n er : Int) (l' : List PV), e = .returned (.tuple #[.int .i64 n, .int .i64 er]) ∧ Adm rt nm l xs most n er l' ∧ SM w' b l' ∧ (∀ p ∈ l', Ent rt nm w' p) ∧ Mod (fun k => k = b) w w' := by
  have HT := Lib.hid (fun (W : World) (hW : Below w.heap.size w W) => Tab_below hT hW)
  have HG := Lib.hid (fun (W : World) (hW : Below w.heap.size w W) => (hW.block g (blk_lt hg)).trans hg)
  have HB := Lib.hid (fun (W : World) (hW : Below w.heap.size w W) => hb.below hW)
  have HE := Lib.hid (fun (W : World) (hW : Below w.heap.size w W) => fun p hp => (hent p hp).ck (CK.below hW))
  have HX := Lib.hid (fun (W : World) (hW : Below w.heap.size w W) (i : Nat) (hi : i < xs.length) => row_at (Kd.C_below hC hW) hi)
  have HR := Lib.hid hrt
  have HM := Lib.hid (And.intro hm0 hm1)
  have HGL := Lib.hid (blk_lt hg)
  have HBL := Lib.hid hb.lt
  clear hT hg hb hent hC hrt hm0 hm1
  go_enter Tryd.func30, Tryd.ntmps30
  go_wp2_with (go_at_call 39; (with_reducible refine (ok_calls w g b (HG.out w (Below.refl _ w))).mono ?_); rintro e w1 ⟨rfl, hD⟩; have HB1 := Lib.hid (below_dr hD); clear hD)
  go_loopg [22] xs.length (fun kq s22 wr => ∃ i : Nat, i + kq = xs.length ∧ s22 = .int .i64 (i : Int) ∧ Hid (Below w.heap.size w wr) ∧ Hid (∀ j, j < i → rt (xs.getD j []) = 0))
  case atStart => exact ⟨0, by omega, rfl, HB1.out, fun j hj => absurd hj (by omega)⟩
  case round =>
    obtain ⟨i, hi, rfl, hBr, HZ⟩ := hrel
    by_cases hlt : i < xs.length
    · obtain ⟨ad, Ai, ci, hA, hcell, hci, hCi⟩ := HX.out wr hBr.out i hlt
      subst hA
      obtain ⟨x, hx⟩ : ∃ x, x = xs.getD i [] := ⟨_, rfl⟩
      rw [← hx] at hcell hci hCi
      have hmem : x ∈ xs := by
        rw [hx, List.getD_eq_getElem?_getD, List.getElem?_eq_getElem hlt]
        exact List.getElem_mem hlt
      obtain ⟨r1, r2, r3⟩ := HR.out x hmem
      have HXX := Lib.hid hx
      have HCI := Lib.hid (And.intro hci hCi)
      clear hx hci hCi r1 r3 hmem
      obtain ⟨r, hr⟩ : ∃ r, r = rt x := ⟨_, rfl⟩
      rw [← hr] at r2
      have HRR := Lib.hid hr
      have HR2 := Lib.hid r2
      clear hr r2
      by_cases hz : r = 0
      · subst hz
        go_wp2_with (go_at_call 40; (with_reducible refine (right_g wr (HT.out wr hBr.out) Ai ci x 0 HCI.out.2 HCI.out.1 HR2.out).mono ?_); rintro e w3 ⟨rfl, hB3⟩; have HB3 := Lib.hid (hBr.out.trans (lower_m hB3 hBr.out.size)); clear hB3)
        go_roundg (gk - 1)
        case measure => omega
        case rel => exact ⟨i + 1, by omega, rfl, HB3.out, fun j hj => by
          by_cases hji : j < i
          · exact HZ.out j hji
          · obtain rfl : j = i := by omega
            rw [← HXX.out]
            exact HRR.out.symm⟩
      · go_wp2_with (go_at_call 40; (with_reducible refine (right_g wr (HT.out wr hBr.out) Ai ci x r HCI.out.2 HCI.out.1 HR2.out).mono ?_); rintro e w3 ⟨rfl, hB3⟩; have HB3 := Lib.hid (hBr.out.trans (lower_m hB3 hBr.out.size)); clear hB3)
        go_ret2
        have hbad : firstBad rt xs = r := by
          rw [firstBad_take HZ.out (by omega), List.drop_eq_getElem_cons hlt]
          have e : xs[i] = x := by rw [HXX.out, List.getD_eq_getElem?_getD, List.getElem?_eq_getElem hlt]; rfl
          rw [e]
          simp only [firstBad]
          rw [if_neg (by rw [← HRR.out]; exact hz), HRR.out]
        refine ⟨0, r, l, rfl, .inl ⟨by rw [hbad]; exact hz, rfl, hbad.symm, rfl⟩, HB.out _ HB3.out, HE.out _ HB3.out, Mod.of_below HB3.out _⟩
    · have hbad : firstBad rt xs = 0 := by
        rw [firstBad_take (i := xs.length) (fun j hj => HZ.out j (by omega)) (Nat.le_refl _), List.drop_length]
        rfl
      have HBAD := Lib.hid hbad
      have HZ2 : Hid (∀ j, j < xs.length → rt (xs.getD j []) = 0) := Lib.hid (fun j hj => HZ.out j (by omega))
      clear hbad HZ
      have hmk := run_makeMap (P := Tryd.prog) 70
      go_wp2
      obtain ⟨W0, hW0⟩ : ∃ W0, W0 = wr.alloc (.map #[] 0) := ⟨_, rfl⟩
      obtain ⟨fb, hfb⟩ : ∃ fb, fb = wr.heap.size := ⟨_, rfl⟩
      have HB0 : Hid (Below w.heap.size w W0) := Lib.hid (by rw [hW0]; exact below_alloc hBr.out _)
      have HF0 : Hid (SM W0 fb []) := Lib.hid (SM.empty (c := 0) (by rw [hW0, hfb]; exact heap_alloc_new wr _))
      have HFW : Hid (w.heap.size ≤ fb) := Lib.hid (by rw [hfb]; exact hBr.out.size)
      rw [← hW0, ← hfb]
      clear hW0 hfb hmk hBr hi hlt
      obtain ⟨old, hold⟩ : ∃ old, old = l.map (·.1) := ⟨_, rfl⟩
      have HO := Lib.hid hold
      clear hold
      go_loopg [35] xs.length (fun kq s35 wr => ∃ (i : Nat) (f : List PV), i + kq = xs.length ∧ s35 = .int .i64 (i : Int) ∧ Hid (Below w.heap.size w wr) ∧ Hid (SM wr fb f) ∧ Hid (f.map (·.1) = freshK nm old (xs.take i)) ∧ Hid (∀ p ∈ f, Ent rt nm wr p))
      case atStart => exact ⟨0, [], by omega, rfl, HB0.out, HF0.out, by rw [List.take_zero]; rfl, fun p hp => by simp at hp⟩
      case round =>
        obtain ⟨i, f, hi, rfl, hBz, HF, HK, HEf⟩ := hrel
        by_cases hlt : i < xs.length
        · obtain ⟨ad, Ai, ci, hA, hcell, hci, hCi⟩ := HX.out wr hBz.out i hlt
          subst hA
          obtain ⟨x, hx⟩ : ∃ x, x = xs.getD i [] := ⟨_, rfl⟩
          rw [← hx] at hcell hci hCi
          have hmem : x ∈ xs := by
            rw [hx, List.getD_eq_getElem?_getD, List.getElem?_eq_getElem hlt]
            exact List.getElem_mem hlt
          obtain ⟨r1, -, r3⟩ := HR.out x hmem
          have hr0 : rt x = 0 := by rw [hx]; exact HZ2.out i hlt
          obtain ⟨s, hs⟩ : ∃ s, s = nm x := ⟨_, rfl⟩
          have r4 := r3 hr0
          rw [← hs] at r4
          have HXX := Lib.hid (And.intro hx (And.intro hr0 (And.intro hs (And.intro r4 (And.intro r1 (And.intro hci hCi))))))
          have hstep := freshK_take nm old xs i hlt
          rw [← hx] at hstep
          have HST := Lib.hid hstep
          clear hstep hx hr0 hs r4 r1 r3 hci hCi hmem
          by_cases hin : s ∈ old
          · obtain ⟨x0, n0, c0, hv⟩ : ∃ (x0 : Addr) (n0 c0 : Nat), getP s l = .slice (some x0) n0 c0 := by
              have hm := getP_mem (k := s) (l := l) (by rw [← HO.out]; exact hin)
              obtain ⟨ls, x0, c0, h1, h2⟩ := (HE.out w (Below.refl _ _) _ hm).out
              exact ⟨x0, _, c0, h1⟩
            have HV := Lib.hid hv
            have HIN := Lib.hid hin
            have heq : ∀ W : World, (binOp .eql 61 (.slice (some x0) n0 c0) (.slice none 0 0)).run Tryd.prog W = .ok (.bool false) W := fun W => by
              simp only [binOp]
              simp [run_equal_slice_nil W 61 _ (some x0) n0 c0 Tryd.underlying61]
            clear hv hin
            go_wp2_with (go_at_call 41; (with_reducible refine (print_g wr Ai ci x s HXX.out.2.2.2.2.2.2 HXX.out.2.2.2.2.2.1 HXX.out.2.2.2.1).mono ?_); rintro e w4 ⟨rfl, hB4⟩; have HF4 := Lib.hid (HF.out.below hB4); have HE4 : Hid (∀ p ∈ f, Ent rt nm w4 p) := Lib.hid (fun p hp => (HEf.out p hp).ck (CK.below hB4)); have HB4 := Lib.hid (hBz.out.trans (lower_m hB4 hBz.out.size)); clear hB4; have hlk := lookup_sm w4 b l s (HB.out w4 HB4.out); rw [HV.out] at hlk; have hgc : w4.cell? ⟨g, 0, none⟩ = some (.map (some b)) := (blk_cell (HG.out w4 HB4.out) 0).trans rfl)
            go_roundg (gk - 1)
            case measure => omega
            case rel => exact ⟨i + 1, f, by omega, rfl, HB4.out, HF4.out, by rw [HST.out, addK_in (.inl (by rw [← HXX.out.2.2.1]; exact HIN.out))]; exact HK.out, HE4.out⟩
          · have hv : getP s l = .slice none 0 0 := getP_none (by rw [← HO.out]; exact hin)
            have HV := Lib.hid hv
            have HIN := Lib.hid hin
            have heq : ∀ W : World, (binOp .eql 61 (.slice none 0 0) (.slice none 0 0)).run Tryd.prog W = .ok (.bool true) W := fun W => by
              simp only [binOp]
              simp [run_equal_slice_nil W 61 _ none 0 0 Tryd.underlying61]
            clear hv hin
            go_wp2_with (first
              | (go_at_call 41; (with_reducible refine (print_g wr Ai ci x s HXX.out.2.2.2.2.2.2 HXX.out.2.2.2.2.2.1 HXX.out.2.2.2.1).mono ?_); rintro e w4 ⟨rfl, hB4⟩; have HC4 := Lib.hid (C_ck (CK.below hB4) HXX.out.2.2.2.2.2.2); have HF4 := Lib.hid (HF.out.below hB4); have HE4 : Hid (∀ p ∈ f, Ent rt nm w4 p) := Lib.hid (fun p hp => (HEf.out p hp).ck (CK.below hB4)); have HB4 := Lib.hid (hBz.out.trans (lower_m hB4 hBz.out.size)); clear hB4; have hlk := lookup_sm w4 b l s (HB.out w4 HB4.out); rw [HV.out] at hlk; have hgc : w4.cell? ⟨g, 0, none⟩ = some (.map (some b)) := (blk_cell (HG.out w4 HB4.out) 0).trans rfl)
              | (go_at_call 42; (with_reducible refine (own_all w4 Ai ci x HC4.out HXX.out.2.2.2.2.2.1 HXX.out.2.2.2.2.1).mono ?_); rintro e w5 ⟨A5, c5, rfl, hc5, hC5, hB5⟩; have HF5 := Lib.hid (HF4.out.below hB5); have HE5 : Hid (∀ p ∈ f, Ent rt nm w5 p) := Lib.hid (fun p hp => (HE4.out p hp).ck (CK.below hB5)); have HC5 := Lib.hid (And.intro hc5 hC5); have HB5 := Lib.hid (HB4.out.trans (lower_m hB5 HB4.out.size)); clear hB5 hc5 hC5; obtain ⟨es6, c6, hmu, hsm⟩ := update_sm w5 fb f s (.slice (some A5) x.length c5) HF5.out; obtain ⟨W6, hW6⟩ : ∃ W6, W6 = setO w5 fb (.map es6 c6) := ⟨_, rfl⟩; rw [← hW6] at hmu hsm; have HF6 := Lib.hid hsm; have HE6 : Hid (∀ p ∈ putP s (.slice (some A5) x.length c5) f, Ent rt nm W6 p) := Lib.hid (by
                  have hck : CK w5 W6 := by rw [hW6]; exact CK.mapset HF5.out
                  intro p hp
                  rcases putP_mem hp with rfl | hp
                  · exact ⟨⟨x, A5, c5, rfl, HC5.out.1, C_ck hck HC5.out.2, HXX.out.2.1, HXX.out.2.2.1.symm⟩⟩
                  · exact (HE5.out p hp).ck hck); have HB6 : Hid (Below w.heap.size w W6) := Lib.hid (by rw [hW6]; exact below_setO HB5.out HFW.out); clear hW6 hsm))
            go_roundg (gk - 1)
            case measure => omega
            case rel => exact ⟨i + 1, putP s (.slice (some A5) x.length c5) f, by omega, rfl, HB6.out, HF6.out, by
              rw [HST.out]
              by_cases hf : s ∈ f.map (·.1)
              · rw [putP_keys hf, addK_in (.inr (by rw [← HXX.out.2.2.1, ← HK.out]; exact hf))]
                exact HK.out
              · rw [putP_new hf, List.map_append, addK_new (fun h => by
                  rw [← HXX.out.2.2.1, ← HK.out] at h
                  rcases h with h | h
                  · exact HIN.out h
                  · exact hf h), ← HK.out, ← HXX.out.2.2.1]
                rfl, HE6.out⟩
        · have hK2 : f.map (·.1) = freshK nm old xs := by
            have := HK.out
            rwa [List.take_of_length_le (by omega)] at this
          have HK2 := Lib.hid hK2
          have hfl : f.length ≤ 1000000 := by
            have h1 := congrArg List.length hK2
            rw [List.length_map] at h1
            have h2 := freshK_len nm old xs []
            rw [List.length_nil] at h2
            unfold freshK at h1
            omega
          have hfn : (freshK nm old xs).length = f.length := by rw [← hK2, List.length_map]
          have HFN := Lib.hid hfn
          clear hK2 HK hfn hi
          obtain ⟨N, hN⟩ : ∃ N : Int, N = (f.length : Int) := ⟨_, rfl⟩
          obtain ⟨L, hL⟩ : ∃ L : Int, L = (l.length : Int) := ⟨_, rfl⟩
          have hl1 := len_sm wr fb f 3 HF.out
          have hl0 := len_sm wr b l 3 (HB.out wr hBz.out)
          have hgc : wr.cell? ⟨g, 0, none⟩ = some (.map (some b)) := (blk_cell (HG.out wr hBz.out) 0).trans rfl
          have hl1n := fun n : Nat => len_sm (wr.drewN n) fb f 3 HF.out
          have hl0n := fun n : Nat => len_sm (wr.drewN n) b l 3 (HB.out wr hBz.out)
          rw [← hN] at hl1
          rw [← hL] at hl0
          simp only [← hN] at hl1n
          simp only [← hL] at hl0n
          have hNr : 0 ≤ N ∧ N ≤ 1000000 := by omega
          have hLr : 0 ≤ L ∧ L ≤ 1000000 := by omega
          have HNL := Lib.hid (And.intro hN hL)
          clear hfl
          obtain ⟨m1, m2⟩ := HM.out
          by_cases hf0 : N = 0
          · subst hf0
            have hf1 : f = [] := List.length_eq_zero_iff.1 (by omega)
            clear hN hL
            go_wp2
            go_ret2
            refine ⟨0, 0, l, rfl, .inr (.inl ⟨HBAD.out, ?_, rfl, rfl, rfl⟩), HB.out _ hBz.out, HE.out _ hBz.out, Mod.of_below hBz.out _⟩
            rw [← HO.out, ← HK2.out, hf1]
            rfl
          · clear hN hL
            have hnn : freshK nm old xs ≠ [] := fun e => by
              have h1 := HFN.out
              have h2 := HNL.out.1
              rw [e] at h1
              exact hf0 (by rw [h2, ← h1]; rfl)
            have HNN := Lib.hid hnn
            clear hnn
            by_cases hneg : most < 0
            · go_wp2
              go_quiet (fail)
              have HBq := Lib.hid (pw_below_drewN hBz.out nq)
              generalize wr.drewN nq = W7 at HBq
              go_wp2
              go_ret2
              refine ⟨0, 5, l, rfl, .inr (.inr (.inl ⟨HBAD.out, by rw [← HO.out]; exact HNN.out, ?_, rfl, rfl, rfl⟩)), HB.out _ HBq.out, HE.out _ HBq.out, Mod.of_below HBq.out _⟩
              exact .inl hneg
            · have hsub : IntKind.i64.wrap (most - L) = most - L := IntWalk.i64_in _ (by omega)
              by_cases hful : most - L < N
              · go_wp2
                go_quiet (fail)
                have HBq := Lib.hid (pw_below_drewN hBz.out nq)
                generalize wr.drewN nq = W7 at HBq
                go_wp2
                go_ret2
                refine ⟨0, 5, l, rfl, .inr (.inr (.inl ⟨HBAD.out, by rw [← HO.out]; exact HNN.out, ?_, rfl, rfl, rfl⟩)), HB.out _ HBq.out, HE.out _ HBq.out, Mod.of_below HBq.out _⟩
                have h1 := HFN.out
                have h2 := HNL.out.1
                have h3 := HNL.out.2
                rw [← HO.out]
                right
                omega
              · go_wp2
                go_quiet (fail)
                have HBq := Lib.hid (pw_below_drewN hBz.out nq)
                have HFq : Hid (SM (wr.drewN nq) fb f) := Lib.hid (HF.out.of_eq rfl)
                have HEq : Hid (∀ p ∈ f, Ent rt nm (wr.drewN nq) p) := Lib.hid (fun p hp => (HEf.out p hp).ck (CK.below (pw_below_drewN (Below.refl _ _) nq)))
                generalize wr.drewN nq = W7 at HBq HFq HEq
                clear hl1 hl0 hl1n hl0n hgc HF HEf hBz hlt
                obtain ⟨o8, hrg, hI⟩ := range_sm W7 fb f HFq.out
                obtain ⟨it, hit⟩ : ∃ it, it = W7.heap.size := ⟨_, rfl⟩
                obtain ⟨W8, hW8⟩ : ∃ W8, W8 = W7.alloc o8 := ⟨_, rfl⟩
                have HL : Hid (L4 rt nm w W8 g b fb it l f [] f) := Lib.hid (by
                  have hbn : Below w.heap.size w W8 := by rw [hW8]; exact below_alloc HBq.out o8
                  have h78 : Below W7.heap.size W7 W8 := by rw [hW8]; exact below_alloc (Below.refl _ _) o8
                  rw [← hW8, ← hit] at hI
                  refine ⟨hI, ?_, HFq.out.below h78, List.Perm.refl _, fun p hp => ?_, HG.out _ hbn, Mod.of_below hbn _, by rw [hit]; exact HBq.out.size⟩
                  · rw [List.append_nil]
                    exact HB.out _ hbn
                  · rcases List.mem_append.1 hp with hp | hp
                    · exact HE.out _ hbn p hp
                    · exact (HEq.out p hp).ck (CK.below h78))
                rw [← hW8, ← hit] at hrg
                clear hW8 hit hI
                go_wp2
                go_loopg [] f.length (fun kq wr => ∃ done left : List PV, left.length = kq ∧ Hid (L4 rt nm w wr g b fb it l f done left))
                case atStart => exact ⟨[], f, rfl, HL.out⟩
                case round =>
                  obtain ⟨done, left, hkl, hL⟩ := hrel
                  rcases next_sm wr it fb left hL.out.qi with ⟨h0, hnx⟩ | ⟨p, left', w1', W9, o9, hp, hw1, hW9, hnx, hI9, hen⟩
                  · have hl1 := len_sm wr fb f 3 hL.out.qf
                    subst h0
                    go_wp2
                    go_ret2
                    have hpd : f.Perm done := by
                      have := hL.out.qp
                      rwa [List.append_nil] at this
                    refine ⟨_, 0, l ++ done, rfl, .inr (.inr (.inr ⟨HBAD.out, by rw [← HO.out]; exact HNN.out, by omega, ?_, ?_, rfl, ?_⟩)), hL.out.qb, fun p hp => ?_, hL.out.qm⟩
                    · have h1 := HFN.out
                      have h2 := HNL.out.1
                      have h3 := HNL.out.2
                      rw [← HO.out]
                      omega
                    · rw [← HO.out, HFN.out]
                    · rw [← HO.out, ← HK2.out, List.map_append, ← HO.out]
                      exact (hpd.symm.map _).append_left _
                    · refine hL.out.qe p ?_
                      rcases List.mem_append.1 hp with hp | hp
                      · exact List.mem_append_left _ hp
                      · exact List.mem_append_right _ (hpd.mem_iff.2 hp)
                  · have hne1 : b ≠ it := by have h1 := HBL.out; have h2 := hL.out.qw; omega
                    have hne2 : b ≠ fb := by have h1 := HBL.out; have h2 := HFW.out; omega
                    have hne3 : g ≠ it := by have h1 := HGL.out; have h2 := hL.out.qw; omega
                    have hne4 : g ≠ b := by
                      intro e
                      obtain ⟨es, c0, h1, _⟩ := hL.out.qb
                      have h2 := hL.out.qg
                      rw [e, h1] at h2
                      cases h2
                    have hfi : fb ≠ it := Ne.symm hL.out.qi.lt.2.2
                    have hw1h : w1'.heap = wr.heap := by rcases hw1 with rfl | rfl <;> rfl
                    have h9b : SM W9 b (l ++ done) := hL.out.qb.of_eq (by rw [hW9, setO_far _ _ _ _ hne1, hw1h])
                    have h9f : SM W9 fb f := hL.out.qf.of_eq (by rw [hW9, setO_far _ _ _ _ hfi, hw1h])
                    have h9g : W9.heap[g]? = some (.cells #[.map (some b)] 72 (0, 0)) := by rw [hW9, setO_far _ _ _ _ hne3, hw1h]; exact hL.out.qg
                    have hck9 : CK wr W9 := by
                      have h1 : CK wr w1' := fun a v hv => (cell_heap (w := wr) (w' := w1') a (congrArg (fun h => h[a.block]?) hw1h)).trans hv
                      have h2 : IT w1' it fb left := hL.out.qi.of_eq (by rw [hw1h]) (by rw [hw1h])
                      rw [hW9]
                      exact h1.trans (CK.iterset h2)
                    have h9m : Mod (fun k => k = b) w W9 := by
                      have h1 : Mod (fun k => k = b) w w1' := by
                        rcases hw1 with rfl | rfl
                        · exact hL.out.qm
                        · exact hL.out.qm.drew
                      rw [hW9]
                      exact mod_setO h1 (.inr hL.out.qw)
                    have hperm : f.Perm (done ++ p :: left') := hL.out.qp.trans (hp.append_left done)
                    have hpf : p ∈ f := hperm.mem_iff.2 (by simp)
                    have hnew : p.1 ∉ (l ++ done).map (·.1) := by
                      obtain ⟨n1, n2⟩ := freshK_nodup nm old xs [] List.nodup_nil (fun k hk => by simp at hk)
                      have e : f.map (·.1) = xs.foldl (addK nm old) [] := HK2.out
                      rw [← e] at n1 n2
                      rw [List.map_append]
                      intro hm
                      rcases List.mem_append.1 hm with hm | hm
                      · refine n2 p.1 (List.mem_map.2 ⟨p, hpf, rfl⟩) ?_
                        rw [HO.out]
                        exact hm
                      · have n3 := (hperm.map (·.1)).nodup_iff.1 n1
                        rw [List.map_append, List.map_cons] at n3
                        exact (List.nodup_append.1 n3).2.2 p.1 hm p.1 (by simp) rfl
                    obtain ⟨es, c0, hmu, h10⟩ := update_sm W9 b (l ++ done) p.1 p.2 h9b
                    rw [putP_new hnew] at h10
                    obtain ⟨W10, hW10⟩ : ∃ W10, W10 = setO W9 b (.map es c0) := ⟨_, rfl⟩
                    have HL2 : Hid (L4 rt nm w W10 g b fb it l f (done ++ [p]) left') := Lib.hid (by
                      have hck : CK wr W10 := by rw [hW10]; exact hck9.trans (CK.mapset h9b)
                      refine ⟨?_, ?_, ?_, ?_, fun q hq => (hL.out.qe q hq).ck hck, ?_, ?_, hL.out.qw⟩
                      · exact hI9.of_eq (by rw [hW10, setO_far _ _ _ _ (Ne.symm hne1)]) (by rw [hW10, setO_far _ _ _ _ (Ne.symm hne2)])
                      · rw [hW10, ← List.append_assoc]
                        exact h10
                      · exact h9f.of_eq (by rw [hW10, setO_far _ _ _ _ (Ne.symm hne2)])
                      · rw [List.append_assoc]
                        exact hperm
                      · rw [hW10, setO_far _ _ _ _ hne4]
                        exact h9g
                      · rw [hW10]
                        exact mod_setO h9m (.inl rfl))
                    have hgc : W9.cell? ⟨g, 0, none⟩ = some (.map (some b)) := (blk_cell h9g 0).trans rfl
                    have HLEN : Hid (left.length = left'.length + 1) := Lib.hid hp.length_eq
                    rw [← hW10] at hmu
                    obtain ⟨p1, p2⟩ := p
                    clear hne1 hne2 hne3 hne4 hfi hw1h h9b h9f h9g hck9 h9m hperm hpf hnew h10 hW10 hI9 hW9 hw1 hp
                    go_wp2
                    go_roundg (gk - 1)
                    case measure => have := HLEN.out; omega
                    case rel => exact ⟨done ++ [(p1, p2)], left', by have := HLEN.out; omega, HL2.out⟩
end Go.Proofs.YtbpmgaaipkenkaaDoor
end
