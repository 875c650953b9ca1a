/- BitsBack: its walk. -/
import Derived.Test.YtemkfkaggdpcjaaB23
namespace Go.Proofs.Ytemkfkaggdpcjaa
open Go.RowKit Go.Proofs.YtemkfkaggdpcjaaW.PrintWords Go.Proofs.YtemkfkaggdpcjaaW.PrintMore Go.Proofs.YtemkfkaggdpcjaaW.PrintLast Bq
set_option linter.unusedVariables false
set_option linter.unusedSimpArgs false
attribute [local go_sem ↓] Go.wp_at_zero Go.wp_at_succ

theorem info_op : (Try.prog.info? 30).map (fun i => (i.zero, i.size, i.bytes)) = some (some (.agg #[.int .u64 0, .int .i64 0]), 2, 16) := by kernel_rfl

/-- The Reader over what was put, and the row beside. -/
structure RIn (w wr : World) (gr : Nat) (rem : List Bool) (vr : Value) (os : List (Int × Int)) : Prop where
  rd : ∃ okQ, Rd wr okQ gr rem
  row : ∃ okR : Nat → Prop, kOp.R 30 wr w.heap.size okR vr os ∧ ∀ k, okR k → k ≠ gr
  lo : w.heap.size ≤ gr
  below : Below w.heap.size w wr
theorem RIn.step {w wr w2 : World} {gr : Nat} {rem : List Bool} {vr : Value} {os : List (Int × Int)} (h : RIn w wr gr rem vr os) (hb : Below wr.heap.size wr w2) : RIn w w2 gr rem vr os := by
  obtain ⟨okQ, hq⟩ := h.rd
  obtain ⟨okR, hr, hne⟩ := h.row
  exact ⟨⟨okQ, hq.kept (Mod.of_below hb (fun _ => False)) (fun _ _ _ h => h)⟩, ⟨okR, Kd.R_step hr (fun k hk hk2 => hb.block k hk2), hne⟩, h.lo, h.below.trans (hb.mono h.below.size)⟩
theorem RIn.get {w wr : World} {gr : Nat} {rem : List Bool} {vr : Value} {os : List (Int × Int)} (h : RIn w wr gr rem vr os) (width : Int) (hw1 : -9223372036854775808 ≤ width) (hw2 : width ≤ 9223372036854775807) (h8 : Nat) (o : Obj) (hb8 : wr.heap[h8]? = some o) (hne : h8 ≠ gr) :
    Calls Try.prog 30 #[.pointer (some ⟨gr, 0, none⟩), .int .i64 width] wr fun e w' =>
      e = .returned (.tuple #[.int .u64 (getN rem width), .int .i64 (getE rem width)]) ∧ RIn w w' gr (getR rem width) vr os ∧ w'.heap[h8]? = some o := by
  obtain ⟨okQ, hq⟩ := h.rd
  obtain ⟨okR, hr, hner⟩ := h.row
  refine (get_calls wr okQ gr rem width hq hw1 hw2).mono ?_
  rintro e w' ⟨rfl, hR, hM⟩
  exact ⟨rfl, ⟨⟨okQ, hR⟩, ⟨okR, Kd.R_step hr (fun k hk hk2 => hM.block k hk2 (hner k hk)), hner⟩, h.lo, h.below.trans (hM.below (B := w.heap.size) h.below.size (fun k hk => by rw [hk]; exact h.lo))⟩, (hM.block h8 (blk_lt hb8) hne).trans hb8⟩
theorem RIn.left {w wr : World} {gr : Nat} {rem : List Bool} {vr : Value} {os : List (Int × Int)} (h : RIn w wr gr rem vr os) :
    Calls Try.prog 31 #[.pointer (some ⟨gr, 0, none⟩)] wr fun e w' => e = .returned (.int .i64 rem.length) ∧ ∃ n, w' = wr.drewN n := by
  obtain ⟨okQ, hq⟩ := h.rd
  exact rleft_calls wr okQ gr rem hq
theorem RIn.lt {w wr : World} {gr : Nat} {rem : List Bool} {vr : Value} {os : List (Int × Int)} (h : RIn w wr gr rem vr os) : gr < wr.heap.size := by
  obtain ⟨okQ, hq⟩ := h.rd
  obtain ⟨cs, hb⟩ := hq.blk
  exact blk_lt hb
theorem RIn.start {w w5 w6 : World} {g gr : Nat} {bs bits : List Bool} {vr : Value} {os : List (Int × Int)} (h : OS0 w w5 g bs vr os) (hR : Rd w6 (fun k => w5.heap.size ≤ k) gr bits) (hB : Below w5.heap.size w5 w6) : RIn w w6 gr bits vr os := by
  obtain ⟨okW, okR, h⟩ := h
  have hi := h.step hB
  have hgr : w5.heap.size ≤ gr := by
    obtain ⟨_, _, _, _, h1, _⟩ := hR
    exact h1.okg
  exact ⟨⟨_, hR⟩, ⟨okR, hi.row, fun k hk e => by have := (h.br k hk).2.1; omega⟩, Nat.le_trans h.below.size hgr, hi.below⟩

set_option maxHeartbeats 4000000 in
theorem bitsBack_calls (w : World) (A : Option Addr) (c : Nat) (ops : List (Int × Int)) (hO : kOp.C w A ops.length ops)
    (hw : ∀ o ∈ ops, (0 ≤ o.1 ∧ o.1 < 18446744073709551616) ∧ -9223372036854775808 ≤ o.2 ∧ o.2 ≤ 9223372036854775807) :
    Calls Try.prog 6 #[.slice A ops.length c] w fun e w' => e = .returned (.bool true) ∧ Below w.heap.size w w' := by
  have HO := Lib.hid hO
  have HW := Lib.hid hw
  clear hO hw
  by_cases hf : ops.length ≤ 200
  · have q1 : decide ((ops.length : Int) ≤ 200) = true := decide_eq_true (by omega)
    have HF := Lib.hid hf
    clear hf
    go_enter Try.func6, Try.ntmps6
    go_wp2_with fail
    refine (newWriter_calls _).mono ?_
    rintro e w1 ⟨rfl, hW, hB⟩
    have HW1 := Lib.hid hW
    have HB1 := Lib.hid hB
    clear hW hB
    obtain ⟨g, hg⟩ : ∃ g, g = w.heap.size := ⟨_, rfl⟩
    have hbase : w.heap.size = g := hg.symm
    rw [← hg] at HW1 ⊢
    clear hg
    have HG := Lib.hid hbase
    clear hbase
    go_wp2_with fail
    refine (live_calls _).mono ?_
    rintro e w2 ⟨rfl, hB2⟩
    have HB2 := Lib.hid hB2
    clear hB2
    go_wp2_with (go_at_call 11; refine (few_calls _ _ _ _).mono ?_; rintro e w' ⟨rfl, rfl⟩; rw [q1])
    have HS0 := Lib.hid (OS0.start (by rw [HG.out]; exact HW1.out) HB1.out HB2.out)
    obtain ⟨w3, h3⟩ : ∃ w3, w3 = w2.alloc (.cells #[] 30) := ⟨_, rfl⟩
    rw [← h3] at HS0 ⊢
    clear h3
    generalize Value.slice (some ⟨w2.heap.size, 0, none⟩) 0 0 = v0 at HS0 ⊢
    go_loopg [29, 4] ops.length (fun kq s29 s4 wr => ∃ (k : Nat) (os : List (Int × Int)) (bs : List Bool), k + kq = ops.length ∧ s29 = .int .i64 k ∧ Hid (os.length ≤ k) ∧ Hid (bs.length ≤ 64 * k) ∧ Hid (bs = opBits os) ∧ Hid (∀ o ∈ os, Good o) ∧ Hid (OS0 w wr g bs s4 os))
    case atStart => exact ⟨0, [], [], by omega, rfl, by unfold Hid; decide, by unfold Hid; decide, rfl, fun o h => by simp at h, HS0.out⟩
    case round =>
      obtain ⟨k, os, bs, hk, rfl, hol, hlen, hbs, hgood, hS⟩ := hrel
      have hF := HF.out
      by_cases hlt : k < ops.length
      · obtain ⟨ad, hA, hc1, hc2⟩ := ops_get HO.out k hlt
        subst hA
        obtain ⟨o, ho⟩ : ∃ o, o = ops.getD k (0, 0) := ⟨_, rfl⟩
        rw [← ho] at hc1 hc2
        have hmem : o ∈ ops := by
          rw [ho, List.getD_eq_getElem?_getD, List.getElem?_eq_getElem hlt]
          exact List.getElem_mem hlt
        clear ho
        obtain ⟨N, wd⟩ := o
        obtain ⟨⟨hn0, hn1⟩, hwd1, hwd2⟩ := HW.out _ hmem
        obtain ⟨n, rfl⟩ := Int.eq_ofNat_of_zero_le hn0
        have hn : n < 18446744073709551616 := by omega
        have hbw := hS.out.below
        have hd1 : wr.cell? (ad.add (k * 2)) = some (.int .u64 n) := by
          rw [hbw.cell (World.block_lt_of_cell? w _ hc1)]
          exact hc1
        have hd2 : wr.cell? (ad.add (k * 2 + 1)) = some (.int .i64 wd) := by
          rw [hbw.cell (World.block_lt_of_cell? w _ hc2)]
          exact hc2
        have hd3 : wr.cell? ⟨(ad.add (k * 2)).block, (ad.add (k * 2)).off + 1, none⟩ = some (.int .i64 wd) := by
          rw [add_next_cell]
          exact hd2
        clear hc1 hc2 hn0 hn1 hmem
        have HST := Lib.hid (hS.out.alloc #[.int .u64 n, .int .i64 wd] 30)
        go_upto_region 8 with fail
        obtain ⟨wa, hwa⟩ : ∃ wa, wa = wr.alloc (.cells #[.int .u64 n, .int .i64 wd] 30) := ⟨_, rfl⟩
        obtain ⟨h8, hh8⟩ : ∃ h8, h8 = wr.heap.size := ⟨_, rfl⟩
        rw [← hwa, ← hh8] at HST ⊢
        clear hwa hh8 hd1 hd2 hd3 hS hbw
        have HN : Hid (bs.length ≤ 8388608) := by have := hlen.out; show bs.length ≤ _; omega
        have hb8 := HST.out.blk
        have c0 : wa.cell? ⟨h8, 0, none⟩ = some (.int .u64 n) := (blk_cell hb8 0).trans rfl
        have c1 : wa.cell? ⟨h8, 1, none⟩ = some (.int .i64 wd) := (blk_cell hb8 1).trans rfl
        clear hb8
        obtain ⟨E, hE⟩ : ∃ E, E = putE bs.length wd n := ⟨_, rfl⟩
        have HE := Lib.hid hE
        clear hE
        obtain ⟨Ar, cr, hu4⟩ := HST.out.forget.row
        subst hu4
        go_wp2_with fail
        refine (HST.out.put n wd HN.out hn hwd1 hwd2).mono ?_
        rintro e w6 ⟨rfl, hS6⟩
        rw [← HE.out]
        by_cases hE0 : E = 0
        · have hq0 : (E == 0) = true := by simp [hE0]
          have hbad : badW wd n = false := by
            have h := HE.out
            rw [hE0] at h
            unfold putE at h
            cases hb : badW wd n with
            | false => rfl
            | true => rw [hb, if_pos rfl] at h; exact absurd h (by decide)
          obtain ⟨b0, b1, b2⟩ := badW_false hbad
          obtain ⟨m, rfl⟩ := Int.eq_ofNat_of_zero_le b0
          have hput : putBits bs (m : Int) n = bs ++ nb n m := by
            unfold putBits
            rw [← HE.out, if_pos hE0, Int.toNat_natCast]
          obtain ⟨bs2, hbs2⟩ : ∃ bs2, bs2 = bs ++ nb n m := ⟨_, rfl⟩
          rw [hput, ← hbs2] at hS6
          have hgd : Good ((n : Int), (m : Int)) := by
            refine ⟨by show (0:Int) ≤ n; omega, by show (0:Int) ≤ m; omega, b1, ?_⟩
            show (n : Int).toNat < 2 ^ (m : Int).toNat
            rw [Int.toNat_natCast, Int.toNat_natCast]
            by_cases hm : m < 64
            · have := b2 (by omega)
              rwa [Int.toNat_natCast] at this
            · have : m = 64 := by omega
              subst this
              exact hn
          have HGD := Lib.hid hgd
          have HBS2 := Lib.hid hbs2
          have hm64 : m ≤ 64 := by omega
          clear hE0 hbad hput b0 hbs2 b1 b2 hgd
          have hb8 := hS6.blk
          have d0 : w6.cell? ⟨h8, 0, none⟩ = some (.int .u64 n) := (blk_cell hb8 0).trans rfl
          have d1 : w6.cell? ⟨h8, 1, none⟩ = some (.int .i64 m) := (blk_cell hb8 1).trans rfl
          obtain ⟨okW, okR, hin, _⟩ := hS6
          have HIN := Lib.hid hin
          have hbb := hin.below.size
          have hola := hol.out
          clear hin hb8
          go_wp2_with (at_builtin; refine Kd.R_append kOp (w0 := w6) (W := w6) w.heap.size rfl (.tmp 40) (.tmp 42) 22 30 (.agg #[.int .u64 0, .int .i64 0]) 16 rfl Try.underlying22 info_op rfl (by decide) (by decide) _ os ((n : Int), (m : Int)) [.int .u64 n, .int .i64 m] (fun k => okR k ∨ w6.heap.size ≤ k) (fun _ => False) rfl rfl ⟨_, _, rfl, rfl, rfl⟩ (fun _ h => h.elim) (fun k hk => .inr hk) (Kd.R_mono HIN.out.row (fun k hk => .inl hk)) (Below.refl _ _) hbb (by omega) ?_; intro v1 w7 hR2 _ hg2 _; have HR2 := Lib.hid hR2; have HG2 := Lib.hid hg2; clear hR2 hg2)
          have HS7 := Lib.hid (OS0.grown okW okR HIN.out HR2.out HG2.out)
          go_roundg (gk - 1)
          case measure => omega
          case rel =>
            refine ⟨k + 1, os ++ [((n : Int), (m : Int))], bs2, by omega, by go_num, by show (os ++ [_]).length ≤ _; rw [List.length_append]; simp; exact hol.out, by show bs2.length ≤ _; rw [HBS2.out, List.length_append, nb_length]; have := hlen.out; omega, ?_, ?_, HS7.out⟩
            · show bs2 = _
              rw [HBS2.out, hbs.out, opBits_snoc, Int.toNat_natCast, Int.toNat_natCast]
            · intro o ho
              rcases List.mem_append.1 ho with h | h
              · exact hgood.out o h
              · rw [List.mem_singleton.1 h]
                exact HGD.out
        · have hq0 : (E == 0) = false := by simp [hE0]
          have hput : putBits bs wd n = bs := by
            unfold putBits
            rw [← HE.out, if_neg hE0]
          rw [hput] at hS6
          have HS6 := Lib.hid hS6
          clear hE0 hput hS6
          go_wp2_with fail
          go_roundg (gk - 1)
          case measure => omega
          case rel => exact ⟨k + 1, os, bs, by omega, by go_num, Nat.le_succ_of_le hol.out, by show bs.length ≤ _; have := hlen.out; omega, hbs.out, hgood.out, HS6.out.forget⟩
      · have HN : Hid (bs.length ≤ 8388608) := by have := hlen.out; show bs.length ≤ _; omega
        obtain ⟨P, hP⟩ : ∃ P, P = packI bs := ⟨_, rfl⟩
        have HPL : Hid (P.length = (bs.length + 7) / 8) := by show P.length = _; rw [hP, packI_length]
        have HPB : Hid (Byts P) := by rw [hP]; exact byts_packI bs
        have HPO : Hid (bitsOf P bs.length = bs) := by rw [hP]; exact bitsOf_pack bs
        have HP := Lib.hid hP
        have hge : (ops.length : Int) ≤ (k : Int) := by omega
        clear hP hF
        obtain ⟨A4, c4, hu4⟩ := hS.out.row
        subst hu4
        have hosl : os.length ≤ 200 := by have := hol.out; have := HF.out; omega
        go_wp2_with fail
        refine (hS.out.bytes HN.out P HP.out).mono ?_
        rintro e w4 ⟨A5, c5, rfl, hC5, hS5⟩
        have HC5 := Lib.hid hC5
        have HS5 := Lib.hid hS5
        clear hC5 hS5
        go_wp2_with fail
        refine (HS5.out.len).mono ?_
        rintro e w' ⟨rfl, rfl⟩
        go_wp2_with fail
        refine (newReader_ok w4 A5 c5 P bs.length HC5.out (by have := HPL.out; have := HN.out; omega) (by have := HPL.out; omega) HPB.out).mono ?_
        rintro e w6 ⟨gr, rfl, hR6, hB6⟩
        rw [HPO.out] at hR6
        have HQ := Lib.hid (RIn.start HS5.out hR6 hB6)
        clear hR6 hB6
        go_wp2_with fail
        go_loopg [61] os.length (fun kq s61 wz => ∃ k, k + kq = os.length ∧ s61 = .int .i64 k ∧ Hid (RIn w wz gr (opBits (os.drop k)) (.slice A4 os.length c4) os))
        case atStart => exact ⟨0, by omega, rfl, by rw [List.drop_zero, ← hbs.out]; exact HQ.out⟩
        case round =>
          obtain ⟨k, hk, rfl, hI⟩ := hrel
          by_cases hlt : k < os.length
          · obtain ⟨okR, hrow, _⟩ := hI.out.row
            obtain ⟨ad, hA, hc1, hc2⟩ := ops_get (Kd.R_reads' hrow).2.2 k hlt
            subst hA
            obtain ⟨o, ho⟩ : ∃ o, o = os.getD k (0, 0) := ⟨_, rfl⟩
            rw [← ho] at hc1 hc2
            have hgo : Good o := by
              apply hgood.out
              rw [ho, List.getD_eq_getElem?_getD, List.getElem?_eq_getElem hlt]
              exact List.getElem_mem hlt
            have hdr := opBits_drop os k hlt
            rw [← ho] at hdr
            clear ho hrow
            obtain ⟨N, wd⟩ := o
            obtain ⟨hn0, b0, b1, b2⟩ := hgo
            obtain ⟨n, rfl⟩ := Int.eq_ofNat_of_zero_le hn0
            have hw1 : -9223372036854775808 ≤ wd := by have : 0 ≤ wd := b0; omega
            have hw2 : wd ≤ 9223372036854775807 := by have : wd ≤ 64 := b1; omega
            have hget := get_op n wd (opBits (os.drop (k + 1))) b0 b1 b2
            have hdr2 : opBits (os.drop k) = nb n wd.toNat ++ opBits (os.drop (k + 1)) := hdr
            rw [← hdr2] at hget
            have HGET := Lib.hid hget
            clear hget hdr hdr2 hn0 b0 b1 b2
            have hd3 : wr.cell? ⟨(ad.add (k * 2)).block, (ad.add (k * 2)).off + 1, none⟩ = some (.int .i64 wd) := by
              rw [add_next_cell]
              exact hc2
            have hlt2 := hI.out.lt
            have HI2 := Lib.hid (hI.out.step (below_alloc (Below.refl _ wr) (.cells #[.int .u64 n, .int .i64 wd] 30)))
            have hb8 := blk_new wr (.cells #[.int .u64 n, .int .i64 wd] 30)
            go_upto_region 17 with fail
            obtain ⟨wa, hwa⟩ : ∃ wa, wa = wr.alloc (.cells #[.int .u64 n, .int .i64 wd] 30) := ⟨_, rfl⟩
            obtain ⟨h8, hh8⟩ : ∃ h8, h8 = wr.heap.size := ⟨_, rfl⟩
            rw [← hwa] at HI2 hb8
            rw [← hh8] at hb8 hlt2
            rw [← hwa, ← hh8]
            have hne : h8 ≠ gr := by omega
            clear hwa hh8 hc1 hc2 hd3 hI
            have HNE := Lib.hid hne
            have HB8 := Lib.hid hb8
            have d1 : wa.cell? ⟨h8, 1, none⟩ = some (.int .i64 wd) := (blk_cell hb8 1).trans rfl
            clear hne hb8 hlt2
            go_wp2_with fail
            refine (HI2.out.get wd hw1 hw2 h8 _ HB8.out HNE.out).mono ?_
            rintro e w7 ⟨rfl, hI7, hb7⟩
            rw [HGET.out.1, HGET.out.2.1]
            rw [HGET.out.2.2] at hI7
            have HI7 := Lib.hid hI7
            have d2 : w7.cell? ⟨h8, 0, none⟩ = some (.int .u64 n) := (blk_cell hb7 0).trans rfl
            clear hI7 hb7
            go_wp2_with fail
            go_roundg (gk - 1)
            case measure => omega
            case rel => exact ⟨k + 1, by omega, by go_num, HI7.out⟩
          · have hke : opBits (os.drop k) = [] := by rw [List.drop_of_length_le (by omega)]; rfl
            rw [hke] at hI
            go_wp2_with fail
            refine (hI.out.left).mono ?_
            rintro e w' ⟨rfl, m, rfl⟩
            have HB9 := Lib.hid (pw_below_drewN hI.out.below m)
            go_wp2_with fail
            go_ret
            exact ⟨rfl, HB9.out⟩
  · have q1 : decide ((ops.length : Int) ≤ 200) = false := decide_eq_false (by omega)
    clear hf
    go_enter Try.func6, Try.ntmps6
    go_wp2_with fail
    refine (newWriter_calls _).mono ?_
    rintro e w1 ⟨rfl, hW, hB⟩
    have HB1 := Lib.hid hB
    clear hW hB
    obtain ⟨g, hg⟩ : ∃ g, g = w.heap.size := ⟨_, rfl⟩
    have hbase : w.heap.size = g := hg.symm
    rw [← hg]
    clear hg
    have HG := Lib.hid hbase
    clear hbase
    go_wp2_with fail
    refine (live_calls _).mono ?_
    rintro e w2 ⟨rfl, hB2⟩
    have HB2 := Lib.hid (HB1.out.trans (hB2.mono HB1.out.size))
    clear hB2
    go_wp2_with (go_at_call 11; refine (few_calls _ _ _ _).mono ?_; rintro e w' ⟨rfl, rfl⟩; rw [q1])
    refine (live_calls _).mono ?_
    rintro e w3 ⟨rfl, hB3⟩
    have HB3 := Lib.hid (HB2.out.trans (hB3.mono HB2.out.size))
    clear hB3
    go_wp2_with fail
    go_ret
    exact ⟨rfl, HB3.out⟩
end Go.Proofs.Ytemkfkaggdpcjaa
