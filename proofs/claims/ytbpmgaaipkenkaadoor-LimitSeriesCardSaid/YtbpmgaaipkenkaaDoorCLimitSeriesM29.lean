import Derived.Test.YtbpmgaaipkenkaaDoorCLimitSeriesM27
namespace Go.Proofs.YtbpmgaaipkenkaaDoor
open Go Go.RowKit Go.Proofs.YtbpmgaaipkenkaaDoorW.PrintWords Go.Proofs.YtbpmgaaipkenkaaDoorW.PrintLast Go.Proofs.YtbpmgaaipkenkaaDoorW.PrintMore
set_option linter.unusedVariables false
set_option linter.unusedSimpArgs false
attribute [local go_sem ↓] Go.wp_at_zero Go.wp_at_succ
def CKS (w w' : World) : Prop := ∀ (a : Addr) (s : ByteArray), w.cell? a = some (.string s) → w'.cell? a = some (.string s)
theorem C_cks {w w' : World} (hk : CKS w w') {A : Option Addr} {n : Nat} {l : LS} (h : kL.C w A n l) : kL.C w' A n l := by
  obtain ⟨h1, h2, h3⟩ := h
  refine ⟨h1, h2, fun hn => ?_⟩
  obtain ⟨ad, e, hc⟩ := h3 hn
  refine ⟨ad, e, fun j p hj => ?_⟩
  obtain ⟨c, hl, hK, hcell⟩ := hc j p hj
  obtain rfl := PMS.k66_open hK
  refine ⟨_, rfl, PMS.k66_mk w' p, fun i u hu => ?_⟩
  have h := hcell i u hu
  rcases i with _ | _ | i
  · injection hu with hu
    subst hu
    exact hk _ _ h
  · injection hu with hu
    subst hu
    exact hk _ _ h
  · cases hu
theorem Ent.cks {rt : LS → Int} {nm : LS → ByteArray} {w w' : World} {p : PV} (h : Ent rt nm w p) (hk : CKS w w') : Ent rt nm w' p := by
  obtain ⟨ls, x, c, h1, h2, h3, h4⟩ := h.out
  exact ⟨⟨ls, x, c, h1, h2, C_cks hk h3, h4⟩⟩
theorem CKS.one {w w' : World} {g t : Nat} {A : Option Addr} {n c : Nat} (hg : w.heap[g]? = some (.cells #[.slice A n c] t (0, 0))) (hm : Mod (fun k => k = g) w w') : CKS w w' := fun a s hs => by
  by_cases e : a.block = g
  · exfalso
    unfold World.cell? at hs
    rw [e, hg] at hs
    simp only at hs
    split at hs
    · cases hs
    · rcases ho : a.off with _ | n
      · rw [ho] at hs
        simp at hs
      · rw [ho] at hs
        simp at hs
  · have hlt : a.block < w.heap.size := World.block_lt_of_cell? w a hs
    exact (cell_heap a (hm.block a.block hlt e)).trans hs
theorem Ser.doc {rt : LS → Int} {nm : LS → ByteArray} {w wr w' : World} {g b g4 : Nat} {l : List PV} {A : Option Addr} {n c : Nat} (h : Ser rt nm w wr g b l) (hm : Mod (fun k => k = g4) wr w')
    (h4 : wr.heap[g4]? = some (.cells #[.slice A n c] 64 (0, 0))) (hb : w.heap.size ≤ g4) : Ser rt nm w w' g b l := by
  have hgb : g ≠ g4 := fun e => by
    have h2 := h.G
    rw [e, h4] at h2
    simp at h2
  have hbb : b ≠ g4 := fun e => by
    obtain ⟨es, c0, h1, _⟩ := h.M
    rw [e, h4] at h1
    cases h1
  exact ⟨h.B.trans (hm.below h.B.size (fun k hk => by rw [hk]; exact hb)), (hm.block g (blk_lt h.G) hgb).trans h.G, h.M.of_eq (hm.block b h.M.lt hbb), fun p hp => (h.E p hp).cks (CKS.one h4 hm), h.b0⟩
def Keep (w w' : World) : Prop := ∀ (k : Nat) (cells : Array Value) (t : Nat) (f : Nat × Nat), w.heap[k]? = some (.cells cells t f) → w'.heap[k]? = w.heap[k]?
theorem keep_map {w w' : World} {b : Nat} {l : List PV} (hs : SM w b l) (hm : Mod (fun k => k = b) w w') : Keep w w' := fun k cells t f hc => hm.block k (blk_lt hc) (fun e => by
  obtain ⟨es, c0, h1, _⟩ := hs
  have e' : k = b := e
  rw [e', h1] at hc
  cases hc)
theorem CK.keep {w w' : World} (hk : Keep w w') : CK w w' := fun a v hv => by
  cases ho : w.heap[a.block]? with
  | none =>
    unfold World.cell? at hv
    rw [ho] at hv
    cases hv
  | some o =>
    cases o with
    | cells c t f => exact (cell_heap a (hk _ c t f ho)).trans hv
    | _ =>
      unfold World.cell? at hv
      rw [ho] at hv
      cases hv
theorem RS.keep {base : Nat} {w w' : World} {v : Value} {qs : List (SL × LS)} (h : RS base w v qs) (hk : Keep w w') : RS base w' v qs := by
  refine ⟨Kd.R_mono (Kd.R_move (Kd.R_bound h.R) (fun k hk2 => ?_)) (fun _ _ => trivial), fun q hq => (h.T q hq).move (fun k cells hc => hk k cells _ _ hc)⟩
  obtain ⟨_, _, _, q, hq, cells, hc⟩ := hk2
  exact hk k cells q _ hc
theorem Ser.other {rt : LS → Int} {nm : LS → ByteArray} {w wr w' : World} {g b g2 b2 : Nat} {l l2 : List PV} (h : Ser rt nm w wr g2 b2 l2) (ho : Ser rt nm w wr g b l) (hb : b2 ≠ b) (hm : Mod (fun k => k = b) wr w') : Ser rt nm w w' g2 b2 l2 := by
  have hk := keep_map ho.M hm
  exact ⟨h.B.trans (hm.below h.B.size (fun k hk => by rw [hk]; exact ho.b0)), (hk g2 _ _ _ h.G).trans h.G, h.M.of_eq (hm.block b2 h.M.lt hb), fun p hp => (h.E p hp).ck (CK.keep hk), h.b0⟩
structure Side (rt : LS → Int) (nm : LS → ByteArray) (cmp : LS → LS → Int) (same : LS → LS → Bool) (U : LS → Prop) (Rel : List PV → List LS → Prop) : Prop where
  few : ∀ L : List LS, ∃ r, (∃ k, PMS.manometerlaw19_few.f k L = some r) ∧ (r = true → L.length ≤ 40 ∧ ∀ x ∈ L, U x)
  u : ∀ x : LS, U x → x.length ≤ 1000000 ∧ (∃ k, PMS.labels_Right.f k x = some (rt x)) ∧ (rt x = 0 → ∃ k, PMS.labels_Print.f k x = some (nm x)) ∧ ∃ k, PMS.manometerref05_Right.f k x = some (rt x)
  ok : ∀ x : LS, rt x = 0 → U x
  cmpE : ∀ x y : LS, rt x = 0 → rt y = 0 → ∃ k, PMS.labels_Compare.f k x y = some (cmp x y)
  two : ∀ x y : LS, U x → U y → (∃ k, PMS.manometerref05_Same.f k x y = some (same x y)) ∧ ∃ k, PMS.manometerref05_Compare.f k x y = some (cmp x y)
  sam : ∀ x y : LS, U x → U y → ∃ k, PMS.labels_Same.f k x y = some (same x y)
  refl : ∀ x : LS, same x x = true
  inj : ∀ x y : LS, rt x = 0 → rt y = 0 → nm x = nm y → x = y
  oth : U [⟨⟨#[111, 116, 104, 101, 114]⟩, ⟨#[120]⟩⟩]
  start : Rel [] []
  mem : ∀ l L, Rel l L → L.length = l.length ∧ (l.map (·.1)).Nodup ∧ ∀ x ∈ L, rt x = 0
  perm : ∀ l l2 L, Rel l L → l2.Perm l → Rel l2 L
  adm : ∀ l l' L L' xs most n er n2 er2, Rel l L → Adm rt nm l xs most n er l' → RAd rt cmp same L xs most n2 er2 L' → n = n2 ∧ er = er2 ∧ Rel l' L'
  list : ∀ l L, Rel l L → ∀ qs : List (SL × LS), (qs.map (fun y : SL × LS => nm y.2)).Perm (l.map (·.1)) → (∀ q ∈ qs, rt q.2 = 0) → (srt cmp qs).map (fun y : SL × LS => y.2) = L
  has : ∀ l L x, Rel l L → U x → ((∃ p ∈ l, Says rt nm (fun y => same y x) p true) → L.any (fun y => same y x) = true) ∧ ((∀ p ∈ l, Says rt nm (fun y => same y x) p false) → L.any (fun y => same y x) = false)
end Go.Proofs.YtbpmgaaipkenkaaDoor
