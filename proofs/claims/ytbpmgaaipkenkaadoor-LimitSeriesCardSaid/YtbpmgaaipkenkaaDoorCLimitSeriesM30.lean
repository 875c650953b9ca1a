import Derived.Test.YtbpmgaaipkenkaaDoorCLimitSeriesM29
namespace Go.Proofs.YtbpmgaaipkenkaaDoor
open Go Go.RowKit Go.Proofs.YtbpmgaaipkenkaaDoorW.PrintWords Go.Proofs.YtbpmgaaipkenkaaDoorW.PrintLast Go.Proofs.YtbpmgaaipkenkaaDoorW.PrintMore
set_option linter.unusedVariables false
set_option linter.unusedSimpArgs false
attribute [local go_sem ↓] Go.wp_at_zero Go.wp_at_succ
structure Two (rt : LS → Int) (nm : LS → ByteArray) (Rel : List PV → List LS → Prop) (w wr : World) (g b g4 : Nat) (l : List PV) (v : Value) (qs : List (SL × LS)) (K : Nat) : Prop where
  S : Ser rt nm w wr g b l
  G4 : wr.heap[g4]? = some (.cells #[v] 64 (0, 0))
  R : RS w.heap.size wr v qs
  low : w.heap.size ≤ g4
  rel : Rel l (qs.map (fun y : SL × LS => y.2))
  len : l.length ≤ K
def TwoE (rt : LS → Int) (nm : LS → ByteArray) (Rel : List PV → List LS → Prop) (w wr : World) (g g4 K : Nat) : Prop := ∃ b l v qs, Two rt nm Rel w wr g b g4 l v qs K
section
variable {rt : LS → Int} {nm : LS → ByteArray} {cmp : LS → LS → Int} {same : LS → LS → Bool} {U : LS → Prop} {Rel : List PV → List LS → Prop} {w wr w' : World} {g g2 b b2 g4 K n0 : Nat} {l : List PV} {v : Value} {qs : List (SL × LS)}
theorem Two.below (h : Two rt nm Rel w wr g b g4 l v qs K) (hb : Below wr.heap.size wr w') : Two rt nm Rel w w' g b g4 l v qs K :=
  ⟨h.S.below hb, (hb.block g4 (blk_lt h.G4)).trans h.G4, h.R.below hb, h.low, h.rel, h.len⟩
theorem TwoE.below (h : TwoE rt nm Rel w wr g g4 K) (hb : Below wr.heap.size wr w') : TwoE rt nm Rel w w' g g4 K := by
  obtain ⟨b, l, v, qs, h⟩ := h
  exact ⟨b, l, v, qs, h.below hb⟩
theorem TwoE.B (h : TwoE rt nm Rel w wr g g4 K) : Below w.heap.size w wr := by
  obtain ⟨b, l, v, qs, h⟩ := h
  exact h.S.B
def Cl (rt : LS → Int) (nm : LS → ByteArray) (Rel : List PV → List LS → Prop) (w wr : World) (g g2 g4 K : Nat) : Prop := ∃ b b2 l l2 v qs, Ser rt nm w wr g b l ∧ b2 ≠ b ∧ l.length ≤ K ∧ Two rt nm Rel w wr g2 b2 g4 l2 v qs K
theorem Cl.below (h : Cl rt nm Rel w wr g g2 g4 K) (hb : Below wr.heap.size wr w') : Cl rt nm Rel w w' g g2 g4 K := by
  obtain ⟨b, b2, l, l2, v, qs, h1, h2, h3, h4⟩ := h
  exact ⟨b, b2, l, l2, v, qs, h1.below hb, h2, h3, h4.below hb⟩
theorem Cl.B (h : Cl rt nm Rel w wr g g2 g4 K) : Below w.heap.size w wr := by
  obtain ⟨b, b2, l, l2, v, qs, h1, h2, h3, h4⟩ := h
  exact h1.B
def Half (rt : LS → Int) (nm : LS → ByteArray) (Rel : List PV → List LS → Prop) (w wr : World) (g g4 K : Nat) (L : List LS) (M n er : Int) : Prop :=
  ∃ b l l' v qs, Adm rt nm l L M n er l' ∧ Ser rt nm w wr g b l' ∧ wr.heap[g4]? = some (.cells #[v] 64 (0, 0)) ∧ RS w.heap.size wr v qs ∧ w.heap.size ≤ g4 ∧ Rel l (qs.map (fun y : SL × LS => y.2)) ∧ l.length ≤ K
theorem Half.B {L : List LS} {M n er : Int} (h : Half rt nm Rel w wr g g4 K L M n er) : Below w.heap.size w wr := by
  obtain ⟨b, l, l', v, qs, h1, h2, h3⟩ := h
  exact h2.B
def HasE (same : LS → LS → Bool) (U : LS → Prop) (w wr : World) (g4 : Nat) (x : LS) (r : Bool) : Prop :=
  ∃ v qs, wr.heap[g4]? = some (.cells #[v] 64 (0, 0)) ∧ RS w.heap.size wr v qs ∧ (∀ q ∈ qs, U q.2) ∧ qs.length ≤ 100000 ∧ qs.any (fun p => same p.2 x) = r ∧ Below w.heap.size w wr
end
def KC (w w' : World) : Prop := ∀ (k : Nat) (cells : Array Value), w.heap[k]? = some (.cells cells 52 (0, 0)) → w'.heap[k]? = some (.cells cells 52 (0, 0))
theorem KC.below {w w' : World} (hb : Below w.heap.size w w') : KC w w' := fun k cells hc => (hb.block k (blk_lt hc)).trans hc
theorem c_clone (rt : LS → Int) (nm : LS → ByteArray) (cmp : LS → LS → Int) (same : LS → LS → Bool) (U : LS → Prop) (Rel : List PV → List LS → Prop) (hD : Side rt nm cmp same U Rel) (w W : World) (g g4 K : Nat) (h : TwoE rt nm Rel w W g g4 K) :
    Calls Tryd.prog 32 #[.pointer (some ⟨g, 0, none⟩)] W fun e w' => ∃ g2 : Nat, e = .returned (.pointer (some ⟨g2, 0, none⟩)) ∧ Cl rt nm Rel w w' g g2 g4 K ∧ KC W w' := by
  obtain ⟨b, l, v, qs, h⟩ := h
  refine (clone_calls W rt nm g b l h.S.G h.S.M h.S.E (hD.mem _ _ h.rel).2.1).mono ?_
  rintro e w' ⟨g2, b2, l2, rfl, hg2, hm2, hp, he, hb2, hg2w, hB⟩
  have hlt := h.S.M.lt
  have hB' : Below w.heap.size w w' := h.S.B.trans (lower_m hB h.S.B.size)
  have h' := h.below hB
  exact ⟨g2, rfl, ⟨b, b2, l, l2, v, qs, h'.S, by omega, h.len, ⟨⟨hB', hg2, hm2, he, Nat.le_trans h.S.B.size hb2⟩, h'.G4, h'.R, h.low, hD.perm _ _ _ h.rel hp, by rw [hp.length_eq]; exact h.len⟩⟩, KC.below hB⟩
theorem c_old (rt : LS → Int) (nm : LS → ByteArray) (cmp : LS → LS → Int) (same : LS → LS → Bool) (U : LS → Prop) (Rel : List PV → List LS → Prop) (hD : Side rt nm cmp same U Rel) (w W : World) (hT : Tab W) (g g2 g4 K : Nat) (hK : K ≤ 10000) (h : Cl rt nm Rel w W g g2 g4 K) (A : Option Addr) (c : Nat) (x : LS) (hU : U x) (hC : kLL.C W A 1 [x]) :
    Calls Tryd.prog 30 #[.pointer (some ⟨g, 0, none⟩), .slice A 1 c, .int .i64 1048576] W fun e w' => (∃ n er : Int, e = .returned (.tuple #[.int .i64 n, .int .i64 er])) ∧ TwoE rt nm Rel w w' g2 g4 K ∧ KC W w' := by
  obtain ⟨b, b2, l, l2, v, qs, h1, h2, h3, h4⟩ := h
  refine (admit_gen W hT rt nm g b l A c [x] 1048576 h1.G h1.M h1.E hC (by simp) (by omega) (by decide) (by decide) (fun y hy => ?_)).mono ?_
  · rw [List.mem_singleton.1 hy]
    obtain ⟨u1, u2, u3, u4⟩ := hD.u x hU
    exact ⟨by omega, u2, u3⟩
  · rintro e w' ⟨n, er, l', rfl, q1, q2, q3, hM⟩
    have hk := keep_map h1.M hM
    exact ⟨⟨n, er, rfl⟩, ⟨b2, l2, v, qs, h4.S.other h1 h2 hM, (hk g4 _ _ _ h4.G4).trans h4.G4, h4.R.keep hk, h4.low, h4.rel, h4.len⟩, fun k cells hc => (hk k _ _ _ hc).trans hc⟩
theorem c_admit (rt : LS → Int) (nm : LS → ByteArray) (cmp : LS → LS → Int) (same : LS → LS → Bool) (U : LS → Prop) (Rel : List PV → List LS → Prop) (hD : Side rt nm cmp same U Rel) (w W : World) (hT : Tab W) (g g4 K : Nat) (hK : K ≤ 10000) (h : TwoE rt nm Rel w W g g4 K) (A : Option Addr) (c : Nat) (L : List LS) (M : Int) (hC : kLL.C W A L.length L) (hL : L.length ≤ 40) (hU : ∀ x ∈ L, U x)
    (m0 : -9223372036854775808 ≤ M) (m1 : M ≤ 9223372036854775807) :
    Calls Tryd.prog 30 #[.pointer (some ⟨g, 0, none⟩), .slice A L.length c, .int .i64 M] W fun e w' => ∃ n er : Int, e = .returned (.tuple #[.int .i64 n, .int .i64 er]) ∧ Half rt nm Rel w w' g g4 K L M n er ∧ KC W w' := by
  obtain ⟨b, l, v, qs, h⟩ := h
  have hlen := h.len
  refine (admit_gen W hT rt nm g b l A c L M h.S.G h.S.M h.S.E hC (by omega) (by omega) m0 m1 (fun y hy => ?_)).mono ?_
  · obtain ⟨u1, u2, u3, u4⟩ := hD.u y (hU y hy)
    exact ⟨by omega, u2, u3⟩
  · rintro e w' ⟨n, er, l', rfl, q1, q2, q3, hM⟩
    have hk := keep_map h.S.M hM
    exact ⟨n, er, rfl, ⟨b, l, l', v, qs, q1, h.S.mod hM q2 q3, (hk g4 _ _ _ h.G4).trans h.G4, h.R.keep hk, h.low, h.rel, h.len⟩, fun k cells hc => (hk k _ _ _ hc).trans hc⟩
theorem c_radmit (rt : LS → Int) (nm : LS → ByteArray) (cmp : LS → LS → Int) (same : LS → LS → Bool) (U : LS → Prop) (Rel : List PV → List LS → Prop) (hD : Side rt nm cmp same U Rel) (w W : World) (g g4 K : Nat) (hK : K ≤ 10000) (A : Option Addr) (c : Nat) (L : List LS) (M n er : Int) (h : Half rt nm Rel w W g g4 K L M n er) (hC : kLL.C W A L.length L) (hL : L.length ≤ 40) (hU : ∀ x ∈ L, U x)
    (m0 : -9223372036854775808 ≤ M) (m1 : M ≤ 9223372036854775807) :
    Calls Tryd.prog 33 #[.pointer (some ⟨g4, 0, none⟩), .slice A L.length c, .int .i64 M] W fun e w' => e = .returned (.tuple #[.int .i64 n, .int .i64 er]) ∧ TwoE rt nm Rel w w' g g4 (K + 40) := by
  obtain ⟨b, l, l', v, qs, hA, hS, h4, hR, hlow, hrel, hlen⟩ := h
  obtain ⟨q1, q2, q3⟩ := hD.mem _ _ hrel
  rw [List.length_map] at q1
  refine (radmit_calls W rt cmp same w.heap.size g4 v qs A c L M hS.B.size h4 hR hC (by omega) (by omega) m0 m1 U (fun q hq => hD.ok _ (q3 q.2 (List.mem_map.2 ⟨q, hq, rfl⟩))) (fun x hx => ⟨hU x hx, (hD.u x (hU x hx)).1, (hD.u x (hU x hx)).2.2.2⟩) hD.two).mono ?_
  rintro e w' ⟨n2, er2, v2, qs2, rfl, hrad, hg, hR2, hM⟩
  obtain ⟨rfl, rfl, hrel2⟩ := hD.adm _ _ _ _ _ _ _ _ _ _ hrel hA hrad
  obtain ⟨s0, s1, s2, s3, s4⟩ := hA.sum
  obtain ⟨Av, cv, rfl, -⟩ := hR.rl
  exact ⟨rfl, b, l', v2, qs2, hS.doc hM h4 hlow, hg, hR2, hlow, hrel2, by omega⟩
theorem c_same (rt : LS → Int) (nm : LS → ByteArray) (cmp : LS → LS → Int) (same : LS → LS → Bool) (U : LS → Prop) (Rel : List PV → List LS → Prop) (hD : Side rt nm cmp same U Rel) (w W : World) (g g4 K : Nat) (hK : K ≤ 10000) (h : TwoE rt nm Rel w W g g4 K) :
    Calls Tryd.prog 34 #[.pointer (some ⟨g, 0, none⟩), .pointer (some ⟨g4, 0, none⟩)] W fun e w' => e = .returned (.bool true) ∧ TwoE rt nm Rel w w' g g4 K := by
  obtain ⟨b, l, v, qs, h⟩ := h
  obtain ⟨A3, c3, rfl, hRL⟩ := h.R.rl
  obtain ⟨q1, q2, q3⟩ := hD.mem _ _ h.rel
  rw [List.length_map] at q1
  have hlen := h.len
  refine (same_calls W rt nm cmp g b l g4 A3 c3 qs h.S.G h.S.M h.S.E (by omega) (fun x hx => by have := (hD.u x (hD.ok x hx)).1; omega) hD.cmpE h.G4 hRL same (fun x hx => ⟨hD.refl x, by have h1 := (hD.two x x (hD.ok x hx) (hD.ok x hx)).1; rwa [hD.refl] at h1, fun y hy => hD.sam y x (hD.ok y hy) (hD.ok x hx)⟩) hD.inj (by omega) (fun ps h1 h2 => hD.list _ _ h.rel ps h1 h2)).mono ?_
  rintro e w' ⟨rfl, hB⟩
  exact ⟨rfl, b, l, _, qs, h.below hB⟩
theorem c_has (rt : LS → Int) (nm : LS → ByteArray) (cmp : LS → LS → Int) (same : LS → LS → Bool) (U : LS → Prop) (Rel : List PV → List LS → Prop) (hD : Side rt nm cmp same U Rel) (w W : World) (g g4 K : Nat) (hK : K ≤ 10000) (h : TwoE rt nm Rel w W g g4 K) (A : Option Addr) (c : Nat) (x : LS) (hU : U x) (hC : kL.C W A x.length x) (hc : x.length ≤ c) :
    Calls Tryd.prog 35 #[.pointer (some ⟨g, 0, none⟩), .slice A x.length c] W fun e w' => ∃ r : Bool, e = .returned (.bool r) ∧ HasE same U w w' g4 x r := by
  obtain ⟨b, l, v, qs, h⟩ := h
  obtain ⟨q1, q2, q3⟩ := hD.mem _ _ h.rel
  rw [List.length_map] at q1
  have hlen := h.len
  refine (has_calls W rt nm (fun y => same y x) g b l A c x h.S.G h.S.M h.S.E hC hc (fun y hy => hD.sam y x (hD.ok y hy) hU)).mono ?_
  rintro e w' ⟨r, rfl, h1, h2, hB⟩
  have h' := h.below hB
  obtain ⟨a1, a2⟩ := hD.has _ _ x h.rel hU
  refine ⟨r, rfl, v, qs, h'.G4, h'.R, fun q hq => hD.ok _ (q3 q.2 (List.mem_map.2 ⟨q, hq, rfl⟩)), by omega, ?_, h'.S.B⟩
  have e1 : (qs.map (fun y : SL × LS => y.2)).any (fun y => same y x) = qs.any (fun p => same p.2 x) := by rw [List.any_map]; rfl
  rw [← e1]
  rcases r with _ | _
  · exact a2 (h2 rfl)
  · exact a1 (h1 rfl)
theorem c_rhas (rt : LS → Int) (nm : LS → ByteArray) (cmp : LS → LS → Int) (same : LS → LS → Bool) (U : LS → Prop) (Rel : List PV → List LS → Prop) (hD : Side rt nm cmp same U Rel) (w W : World) (g4 : Nat) (A : Option Addr) (c : Nat) (x : LS) (r : Bool) (hU : U x) (h : HasE same U w W g4 x r) (hC : kL.C W A x.length x) (hc : x.length ≤ c) :
    Calls Tryd.prog 36 #[.pointer (some ⟨g4, 0, none⟩), .slice A x.length c] W fun e w' => e = .returned (.bool r) ∧ Below w.heap.size w w' := by
  obtain ⟨v, qs, h4, hR, hUq, hl, hr, hB⟩ := h
  obtain ⟨A3, c3, rfl, hRL⟩ := hR.rl
  refine (rhas_calls W g4 A3 c3 qs ((A, x.length, c), x) (fun y => same y x) h4 hRL ⟨rfl, hc, hC⟩ (by omega) (fun p hp => (hD.two p.2 x (hUq p hp) hU).1)).mono ?_
  rintro e w' ⟨rfl, hB2⟩
  exact ⟨by rw [hr], hB.trans (lower_m hB2 hB.size)⟩
theorem lit1_LL (W : World) (t : Nat) (A : Option Addr) (c : Nat) (x : LS) (hC : kL.C W A x.length x) (hc : x.length ≤ c) : kLL.C (W.alloc (.cells #[.slice A x.length c] t)) (some ⟨W.heap.size, 0, none⟩) 1 [x] := by
  refine ⟨rfl, by decide, fun _ => ⟨_, rfl, fun j p hj => ?_⟩⟩
  rcases j with _ | j
  · injection hj with hj
    subst hj
    refine ⟨[.slice A x.length c], rfl, ⟨A, c, rfl, hc, Kd.C_below hC (below_alloc (Below.refl _ _) _)⟩, fun i u hu => ?_⟩
    rcases i with _ | i
    · injection hu with hu
      subst hu
      have h := blk_cell (heap_alloc_new W (.cells #[.slice A x.length c] t)) 0
      have e : (⟨W.heap.size, 0, none⟩ : Addr).add (0 * kLL.sz + 0) = ⟨W.heap.size, 0, none⟩ := by rw [Addr.add_mid]; simp
      rw [e]
      exact h
    · cases hu
  · cases hj
theorem lit1_L (W : World) (t : Nat) (p : PMS.S66) : kL.C (W.alloc (.cells #[.string p.f0, .string p.f1] t)) (some ⟨W.heap.size, 0, none⟩) 1 [p] := by
  refine ⟨rfl, by decide, fun _ => ⟨_, rfl, fun j q hj => ?_⟩⟩
  rcases j with _ | j
  · injection hj with hj
    subst hj
    refine ⟨_, rfl, PMS.k66_mk _ p, fun i u hu => ?_⟩
    have h := blk_cell (heap_alloc_new W (.cells #[.string p.f0, .string p.f1] t)) i
    have e : (⟨W.heap.size, 0, none⟩ : Addr).add (0 * kL.sz + i) = ⟨W.heap.size, i, none⟩ := by rw [Addr.add_mid]; simp
    rw [e]
    refine h.trans ?_
    rcases i with _ | _ | i
    · exact hu
    · exact hu
    · cases hu
  · cases hj
set_option maxRecDepth 20000 in
set_option maxHeartbeats 8000000 in
theorem limitSeries_calls (w : World) (hT : Tab w) (rt : LS → Int) (nm : LS → ByteArray) (cmp : LS → LS → Int) (same : LS → LS → Bool) (U : LS → Prop) (Rel : List PV → List LS → Prop) (hD : Side rt nm cmp same U Rel) (A : Option Addr) (c : Nat) (xs : List ComeS) (hC : kCome.C w A xs.length xs) (hw : ∀ x ∈ xs, -9223372036854775808 ≤ x.f1 ∧ x.f1 ≤ 9223372036854775807)
    (A1 : Option Addr) (c1 : Nat) (ask : LS) (hC1 : kL.C w A1 ask.length ask) (hl1 : ask.length ≤ c1) :
    Calls Tryd.prog 9 #[.slice A xs.length c, .slice A1 ask.length c1] w fun e w' => e = .returned (.bool true) ∧ Below w.heap.size w w' := by
  have HT := Lib.hid (fun (W : World) (hW : Below w.heap.size w W) => Tab_below hT hW)
  have HX := Lib.hid (fun (W : World) (hW : Below w.heap.size w W) (i : Nat) (hi : i < xs.length) => come_at (Kd.C_below hC hW) (⟨[], 0, false⟩ : ComeS) hi)
  have HD := Lib.hid hD
  have HW := Lib.hid hw
  have HC1 := Lib.hid (fun (W : World) (hW : Below w.heap.size w W) => Kd.C_below hC1 hW)
  have HL1 := Lib.hid hl1
  obtain ⟨r, hfr, hfb⟩ := hD.few [ask]
  have HFEW : Hid (∀ W : World, Below w.heap.size w W → Calls Tryd.prog 28 #[.slice (some ⟨W.heap.size, 0, none⟩) 1 1] (W.alloc (.cells #[.slice A1 ask.length c1] 61)) fun e w' => e = .returned (.bool r) ∧ Below W.heap.size W w') := Lib.hid (fun W hW => by
    refine (few_g (W.alloc (.cells #[.slice A1 ask.length c1] 61)) (some ⟨W.heap.size, 0, none⟩) 1 [ask] r (lit1_LL W _ A1 c1 ask (Kd.C_below hC1 hW) hl1) (Nat.le_refl _) hfr).mono ?_
    rintro e w' ⟨he, hB⟩
    have h0 : Below W.heap.size W (W.alloc (.cells #[.slice A1 ask.length c1] 61)) := below_alloc (Below.refl _ _) _
    exact ⟨he, h0.trans (lower_m hB h0.size)⟩)
  have HFB := Lib.hid hfb
  clear hT hC hw hC1 hl1 hfr hfb hD
  go_enter Tryd.func9, Tryd.ntmps9
  go_upto_region 2 with (go_at_call 27; (with_reducible refine (new_calls w).mono ?_); rintro e w1 ⟨rfl, hw1⟩; have HW1 := Lib.hid hw1; clear hw1)
  have hw1 := HW1.out
  clear HW1
  obtain ⟨g, hg⟩ : ∃ g, g = w.heap.size + 1 := ⟨_, rfl⟩
  obtain ⟨g4, hg4⟩ : ∃ g4, g4 = w1.heap.size := ⟨_, rfl⟩
  obtain ⟨w2, hw2⟩ : ∃ w2, w2 = w1.alloc (.cells #[.slice none 0 0] 64) := ⟨_, rfl⟩
  have HS2 : Hid (TwoE rt nm Rel w w2 g g4 0) := Lib.hid (by
    have h0 : (w.alloc (.map #[] 0)).heap[w.heap.size]? = some (.map #[] 0) := heap_alloc_new w _
    have hB0 : Below w.heap.size w (w.alloc (.map #[] 0)) := below_alloc (Below.refl _ _) _
    have hB1 : Below (w.alloc (.map #[] 0)).heap.size (w.alloc (.map #[] 0)) w1 := by rw [hw1]; exact below_alloc (Below.refl _ _) _
    have hS : Ser rt nm w w1 g w.heap.size [] := by
      refine ⟨hB0.trans (lower_m hB1 hB0.size), ?_, ?_, fun p hp => by simp at hp, Nat.le_refl _⟩
      · have h1 := heap_alloc_new (w.alloc (.map #[] 0)) (.cells #[.map (some w.heap.size)] 72)
        rw [hg, hw1]
        simpa [made] using h1
      · exact SM.below (SM.empty (c := 0) h0) hB1
    rw [hw2]
    refine ⟨w.heap.size, [], .slice none 0 0, [], hS.alloc _, ?_, ⟨Kd.R_nil _ _ _ _ _, fun q hq => by simp at hq⟩, ?_, HD.out.start, Nat.zero_le _⟩
    · rw [hg4]
      exact heap_alloc_new w1 _
    · rw [hg4]
      exact hS.B.size)
  rw [← hw2, ← hg, ← hg4]
  clear hw1 hw2 hg hg4
  by_cases hlen : xs.length ≤ 30
  · rcases r with _ | _
    · go_wp2_with (first
        | (go_at_call 11; go_loud (with_reducible refine (live_calls w2 (HT.out w2 HS2.out.B)).mono ?_); rintro e w3 ⟨rfl, hB3⟩; have HS3 := Lib.hid (HS2.out.below hB3); clear hB3)
        | (go_at_call 28; go_loud (with_reducible refine (HFEW.out w3 HS3.out.B).mono ?_); rintro e w4 ⟨rfl, hB4⟩; have HS4 := Lib.hid (HS3.out.below hB4); clear hB4)
        | (go_at_call 11; go_loud (with_reducible refine (live_calls w4 (HT.out w4 HS4.out.B)).mono ?_); rintro e w5 ⟨rfl, hB5⟩; have HS5 := Lib.hid (HS4.out.below hB5); clear hB5))
      go_ret
      exact ⟨rfl, HS5.out.B⟩
    · have HUA : Hid (U ask) := Lib.hid ((HFB.out rfl).2 ask (by simp))
      go_upto_region 5 with (first
        | (go_at_call 11; go_loud (with_reducible refine (live_calls w2 (HT.out w2 HS2.out.B)).mono ?_); rintro e w3 ⟨rfl, hB3⟩; have HS3 := Lib.hid (HS2.out.below hB3); clear hB3)
        | (go_at_call 28; go_loud (with_reducible refine (HFEW.out w3 HS3.out.B).mono ?_); rintro e w4 ⟨rfl, hB4⟩; have HS4 := Lib.hid (HS3.out.below hB4); clear hB4))
      clear HS2 HS3
      go_loopg [5, 37] xs.length (fun kq s5 s37 wr => ∃ (i gq : Nat), i + kq = xs.length ∧ s37 = .int .i64 (i : Int) ∧ s5 = .pointer (some ⟨gq, 0, none⟩) ∧ Hid (TwoE rt nm Rel w wr gq g4 (40 * i)))
      case atStart => exact ⟨0, g, by omega, rfl, rfl, HS4.out⟩
      case round =>
        obtain ⟨i, gq, hi, rfl, rfl, HS⟩ := hrel
        by_cases hlt : i < xs.length
        · obtain ⟨ad, LA, LC, hA, hd0, hd1, hd2, hLC, hLR⟩ := HX.out w (Below.refl _ _) i hlt
          subst hA
          have hc0 := (HS.out.B.cell (World.block_lt_of_cell? w _ hd0)).trans hd0
          have hc1 := (HS.out.B.cell (World.block_lt_of_cell? w _ hd1)).trans hd1
          have hc2 := (HS.out.B.cell (World.block_lt_of_cell? w _ hd2)).trans hd2
          clear hd0 hd1 hd2
          obtain ⟨x, hx⟩ : ∃ x, x = xs.getD i (⟨[], 0, false⟩ : ComeS) := ⟨_, rfl⟩
          rw [← hx] at hc0 hc1 hc2 hLC hLR
          have hxm : x ∈ xs := by
            rw [hx, List.getD_eq_getElem?_getD, List.getElem?_eq_getElem hlt]
            exact List.getElem_mem hlt
          have hwx := HW.out x hxm
          obtain ⟨r, hfr, hfb⟩ := HD.out.few x.f0
          obtain ⟨L, M, cl⟩ := x
          have HL := Lib.hid (And.intro hLC (And.intro (fun (W : World) (hW : Below w.heap.size w W) => Kd.C_below hLR hW) (And.intro hfr (And.intro hfb hwx))))
          clear hx hxm hLC hLR hfr hfb hwx
          simp only at hc0 hc1 hc2
          have HK : Hid (40 * i ≤ 10000) := Lib.hid (by omega)
          go_upto_region 7 with fail
          obtain ⟨gc, hgc⟩ : ∃ gc, gc = wr.heap.size := ⟨_, rfl⟩
          obtain ⟨W7, hW7⟩ : ∃ W7, W7 = wr.alloc (.cells #[.slice LA L.length LC, .int .i64 M, .bool cl] 52) := ⟨_, rfl⟩
          have h7 : W7.heap[gc]? = some (.cells #[.slice LA L.length LC, .int .i64 M, .bool cl] 52 (0, 0)) := by rw [hW7, hgc]; exact heap_alloc_new wr _
          have HB7 : Hid (Below wr.heap.size wr W7) := Lib.hid (by rw [hW7]; exact below_alloc (Below.refl _ _) _)
          have HS7 := Lib.hid (HS.out.below HB7.out)
          have H7 := Lib.hid h7
          rw [← hW7, ← hgc]
          have q0 : W7.cell? ⟨gc, 0, none⟩ = some (.slice LA L.length LC) := (blk_cell h7 0).trans rfl
          clear hW7 hgc hc0 hc1 hc2 h7 HB7 HS
          rcases r with _ | _
          · go_wp2_with (go_at_call 28; (with_reducible refine (few_g W7 LA LC L false (HL.out.2.1 W7 HS7.out.B) HL.out.1 HL.out.2.2.1).mono ?_); rintro e w8 ⟨rfl, hB8⟩; have HS8 := Lib.hid (HS7.out.below hB8); clear hB8)
            go_ret
            exact ⟨rfl, HS8.out.B⟩
          · have HLX := Lib.hid (HL.out.2.2.2.1 rfl)
            have HMM := Lib.hid HL.out.2.2.2.2
            go_upto_region 9 with (go_at_call 28; (with_reducible refine (few_g W7 LA LC L true (HL.out.2.1 W7 HS7.out.B) HL.out.1 HL.out.2.2.1).mono ?_); rintro e w8 ⟨rfl, hB8⟩; have HS8 := Lib.hid (HS7.out.below hB8); have h8 := (hB8.block gc (blk_lt H7.out)).trans H7.out; have H8 := Lib.hid h8; have q82 : w8.cell? ⟨gc, 2, none⟩ = some (.bool cl) := (blk_cell h8 2).trans rfl; clear hB8 h8)
            clear q0
            rcases cl with _ | _
            · have h8c := H8.out
              have q08 : w8.cell? ⟨gc, 0, none⟩ = some (.slice LA L.length LC) := (blk_cell h8c 0).trans rfl
              have q18 : w8.cell? ⟨gc, 1, none⟩ = some (.int .i64 M) := (blk_cell h8c 1).trans rfl
              clear h8c
              go_upto_region 16 with (go_at_call 30; go_loud (with_reducible refine (c_admit rt nm cmp same U Rel HD.out w w8 (HT.out w8 HS8.out.B) gq g4 (40 * i) HK.out HS8.out LA LC L M (HL.out.2.1 w8 HS8.out.B) HLX.out.1 HLX.out.2 HMM.out.1 HMM.out.2).mono ?_); rintro e w11 ⟨n, er, rfl, hH, hK⟩; have h11 := hK _ _ H8.out; have HH := Lib.hid hH; have H11 := Lib.hid h11; have q011 : w11.cell? ⟨gc, 0, none⟩ = some (.slice LA L.length LC) := (blk_cell h11 0).trans rfl; have q111 : w11.cell? ⟨gc, 1, none⟩ = some (.int .i64 M) := (blk_cell h11 1).trans rfl; clear hH hK h11 q08 q18)
              go_upto_region 17 with (go_at_call 33; go_loud (with_reducible refine (c_radmit rt nm cmp same U Rel HD.out w w11 gq g4 (40 * i) HK.out LA LC L M n er HH.out (HL.out.2.1 w11 HH.out.B) HLX.out.1 HLX.out.2 HMM.out.1 HMM.out.2).mono ?_); rintro e w12 ⟨rfl, hS12⟩; have HS12 := Lib.hid hS12; clear hS12 q011 q111)
              go_wp2_with (go_at_call 34; go_loud (with_reducible refine (c_same rt nm cmp same U Rel HD.out w w12 gq g4 (40 * i + 40) (by omega) HS12.out).mono ?_); rintro e w13 ⟨rfl, hS13⟩; have HS13 := Lib.hid hS13; clear hS13)
              go_roundg (gk - 1)
              case measure => omega
              case rel => exact ⟨i + 1, gq, by omega, by go_num, rfl, by have := HS13.out; rwa [show 40 * i + 40 = 40 * (i + 1) by omega] at this⟩
            · go_upto_region 13 with (go_at_call 32; go_loud (with_reducible refine (c_clone rt nm cmp same U Rel HD.out w w8 gq g4 (40 * i) HS8.out).mono ?_); rintro e w9 ⟨g2, rfl, hCl, hK⟩; have h9 := hK _ _ H8.out; have HCL := Lib.hid hCl; have H9 := Lib.hid h9; clear hCl hK h9)
              have HOLD : Hid (Calls Tryd.prog 30 #[.pointer (some ⟨gq, 0, none⟩), .slice (some ⟨w9.heap.size + 1, 0, none⟩) 1 1, .int .i64 1048576] ((w9.alloc (.cells #[.string ⟨#[111, 116, 104, 101, 114]⟩, .string ⟨#[120]⟩] 66)).alloc (.cells #[.slice (some ⟨w9.heap.size, 0, none⟩) 1 1] 61)) fun e w' => (∃ n er : Int, e = .returned (.tuple #[.int .i64 n, .int .i64 er])) ∧ TwoE rt nm Rel w w' g2 g4 (40 * i) ∧ KC w9 w') := Lib.hid (by
                have b1 : Below w9.heap.size w9 (w9.alloc (.cells #[.string ⟨#[111, 116, 104, 101, 114]⟩, .string ⟨#[120]⟩] 66)) := below_alloc (Below.refl _ _) _
                have b2 : Below w9.heap.size w9 ((w9.alloc (.cells #[.string ⟨#[111, 116, 104, 101, 114]⟩, .string ⟨#[120]⟩] 66)).alloc (.cells #[.slice (some ⟨w9.heap.size, 0, none⟩) 1 1] 61)) := below_alloc b1 _
                have hC := lit1_LL (w9.alloc (.cells #[.string ⟨#[111, 116, 104, 101, 114]⟩, .string ⟨#[120]⟩] 66)) 61 (some ⟨w9.heap.size, 0, none⟩) 1 [⟨⟨#[111, 116, 104, 101, 114]⟩, ⟨#[120]⟩⟩] (lit1_L w9 66 ⟨⟨#[111, 116, 104, 101, 114]⟩, ⟨#[120]⟩⟩) (Nat.le_refl _)
                rw [World.size_alloc] at hC
                have hcl := HCL.out.below b2
                refine (c_old rt nm cmp same U Rel HD.out w _ (HT.out _ hcl.B) gq g2 g4 (40 * i) HK.out hcl _ 1 _ HD.out.oth hC).mono ?_
                rintro e w' ⟨h1, h2, h3⟩
                exact ⟨h1, h2, fun k cells hc => h3 k cells (KC.below b2 k cells hc)⟩)
              go_upto_region 15 with (go_at_call 30; go_loud (with_reducible refine HOLD.out.mono ?_); rintro e w10 ⟨⟨n0, er0, rfl⟩, hS10, hK⟩; have h10 := hK _ _ H9.out; have HS10 := Lib.hid hS10; have H10 := Lib.hid h10; clear hS10 hK h10)
              have h10c := H10.out
              have q010 : w10.cell? ⟨gc, 0, none⟩ = some (.slice LA L.length LC) := (blk_cell h10c 0).trans rfl
              have q110 : w10.cell? ⟨gc, 1, none⟩ = some (.int .i64 M) := (blk_cell h10c 1).trans rfl
              clear h10c
              go_upto_region 16 with (go_at_call 30; go_loud (with_reducible refine (c_admit rt nm cmp same U Rel HD.out w w10 (HT.out w10 HS10.out.B) g2 g4 (40 * i) HK.out HS10.out LA LC L M (HL.out.2.1 w10 HS10.out.B) HLX.out.1 HLX.out.2 HMM.out.1 HMM.out.2).mono ?_); rintro e w11 ⟨n, er, rfl, hH, hK⟩; have h11 := hK _ _ H10.out; have HH := Lib.hid hH; have H11 := Lib.hid h11; have q011 : w11.cell? ⟨gc, 0, none⟩ = some (.slice LA L.length LC) := (blk_cell h11 0).trans rfl; have q111 : w11.cell? ⟨gc, 1, none⟩ = some (.int .i64 M) := (blk_cell h11 1).trans rfl; clear hH hK h11 q010 q110)
              go_upto_region 17 with (go_at_call 33; go_loud (with_reducible refine (c_radmit rt nm cmp same U Rel HD.out w w11 g2 g4 (40 * i) HK.out LA LC L M n er HH.out (HL.out.2.1 w11 HH.out.B) HLX.out.1 HLX.out.2 HMM.out.1 HMM.out.2).mono ?_); rintro e w12 ⟨rfl, hS12⟩; have HS12 := Lib.hid hS12; clear hS12 q011 q111)
              go_wp2_with (go_at_call 34; go_loud (with_reducible refine (c_same rt nm cmp same U Rel HD.out w w12 g2 g4 (40 * i + 40) (by omega) HS12.out).mono ?_); rintro e w13 ⟨rfl, hS13⟩; have HS13 := Lib.hid hS13; clear hS13)
              go_roundg (gk - 1)
              case measure => omega
              case rel => exact ⟨i + 1, g2, by omega, by go_num, rfl, by have := HS13.out; rwa [show 40 * i + 40 = 40 * (i + 1) by omega] at this⟩
        · go_wp2_with (first
            | (go_at_call 35; go_loud (with_reducible refine (c_has rt nm cmp same U Rel HD.out w wr gq g4 (40 * i) (by omega) HS.out A1 c1 ask HUA.out (HC1.out wr HS.out.B) HL1.out).mono ?_); rintro e w5 ⟨r, rfl, hE⟩; have HE := Lib.hid hE; clear hE; have HB5 : Hid (Below w.heap.size w w5) := Lib.hid (by obtain ⟨v, qs, h1, h2, h3, h4, h5, h6⟩ := HE.out; exact h6))
            | (go_at_call 36; go_loud (with_reducible refine (c_rhas rt nm cmp same U Rel HD.out w w5 g4 A1 c1 ask r HUA.out HE.out (HC1.out w5 HB5.out) HL1.out).mono ?_); rintro e w6 ⟨rfl, hB6⟩; have HB6 := Lib.hid hB6; clear hB6))
          go_ret
          exact ⟨by simp, HB6.out⟩
  · go_wp2_with (first
      | (go_at_call 11; go_loud (with_reducible refine (live_calls w2 (HT.out w2 HS2.out.B)).mono ?_); rintro e w3 ⟨rfl, hB3⟩; have HS3 := Lib.hid (HS2.out.below hB3); clear hB3)
      | (go_at_call 11; go_loud (with_reducible refine (live_calls w3 (HT.out w3 HS3.out.B)).mono ?_); rintro e w4 ⟨rfl, hB4⟩; have HS4 := Lib.hid (HS3.out.below hB4); clear hB4))
    go_ret
    exact ⟨rfl, HS4.out.B⟩
end Go.Proofs.YtbpmgaaipkenkaaDoor
