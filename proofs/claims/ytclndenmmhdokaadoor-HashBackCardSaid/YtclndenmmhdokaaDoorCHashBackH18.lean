import Derived.Test.YtclndenmmhdokaaDoorCHashBackPHLx2
namespace Go.Proofs.YtclndenmmhdokaaDoor
open Go Go.RowKit Go.Proofs.YtclndenmmhdokaaDoorW.PrintWords Go.Proofs.YtclndenmmhdokaaDoorW.PrintMore Go.Proofs.YtclndenmmhdokaaDoorW.PrintLast
set_option linter.unusedVariables false
set_option linter.unusedSimpArgs false
attribute [local go_sem ↓] Go.wp_at_zero Go.wp_at_succ
theorem add_pos' (ad : Addr) (n : Nat) (h : n ≠ 0) : ad.add n = ⟨ad.block, ad.off + n, none⟩ := by
  unfold Addr.add
  rw [if_neg h]
theorem mixN_len' (s v : List Int) (k : Nat) (hs : s.length = v.length) (hk : k ≤ v.length) : (s.take k ++ v.drop k).length = v.length := by
  rw [List.length_append, List.length_take, List.length_drop]; omega
theorem mixN_get' (s v : List Int) (k : Nat) (hs : s.length = v.length) (hk : k < v.length) : (s.take k ++ v.drop k).getD k 0 = v.getD k 0 := by
  rw [List.getD_eq_getElem?_getD, List.getElem?_append_right (by rw [List.length_take]; omega), List.length_take, Nat.min_eq_left (by omega), Nat.sub_self, List.getElem?_drop, Nat.add_zero, ← List.getD_eq_getElem?_getD]
theorem mixN_set' (s v : List Int) (k : Nat) (hs : s.length = v.length) (hk : k < v.length) : (s.take k ++ v.drop k).set k (s.getD k 0) = s.take (k + 1) ++ v.drop (k + 1) := by
  have h1 : (s.take k).length = k := by rw [List.length_take]; omega
  rw [List.set_append_right _ _ (by omega), h1, Nat.sub_self, List.drop_eq_getElem_cons hk, List.set_cons_zero, List.take_succ_eq_append_getElem (by omega), List.append_assoc, List.getD_eq_getElem?_getD, List.getElem?_eq_getElem (by omega)]
  rfl
theorem four_list (l : List Int) (h : l.length = 4) : (nums .u64 l).toArray = #[.int .u64 (l.getD 0 0), .int .u64 (l.getD 1 0), .int .u64 (l.getD 2 0), .int .u64 (l.getD 3 0)] := by
  match l, h with
  | [a, b, c, d], _ => rfl
theorem index4_run (w : World) (l : List Int) (i : Nat) (h : l.length = 4) (hi : i < 4) :
    Sem.run Tryd.prog (Instr.index 60 (.agg (nums .u64 l).toArray) (.int .i64 (i : Int))) w = .ok (.int .u64 (l.getD i 0)) w := by
  match l, h with
  | [a, b, c, d], _ => rcases (by omega : i = 0 ∨ i = 1 ∨ i = 2 ∨ i = 3) with rfl | rfl | rfl | rfl <;> rfl
theorem acc_length (b : List Int) : ∀ j, (Xx.acc b j).length = 4
  | 0 => rfl
  | j + 1 => rfl
theorem below_lower' {B B' : Nat} {w w1 : World} (h : Below B' w w1) (hB : B ≤ B') : Below B w w1 := ⟨h.os, h.tape, h.output, h.size, fun k hk => h.block k (Nat.lt_of_lt_of_le hk hB)⟩
theorem V_cutN {W : World} {e base n c : Nat} {ok : Nat → Prop} {A : Option Addr} {xs : List Int} (m : Nat) (hm0 : m ≠ 0) (h : Kd.V (Kd.int .u8) e W base ok (.slice A n c) xs) (hm : m ≤ xs.length) :
    Kd.V (Kd.int .u8) e W base ok (.slice (if c = m then A else A.map (fun x => ⟨x.block, x.off + m, none⟩)) (xs.length - m) (c - m)) (xs.drop m) := by
  have ha := Kd.V_at h
  have hf := Kd.F_cut ha.2.2 hm (by omega : xs.length ≤ c)
  have e1 : (fun x : Addr => x.add (m * (Kd.int .u8).sz)) = fun x => ⟨x.block, x.off + m, none⟩ := by
    funext x
    have e2 : m * (Kd.int .u8).sz = m := Nat.mul_one m
    rw [e2]
    exact add_pos' x m hm0
  rw [e1] at hf
  have hl : (xs.drop m).length = xs.length - m := List.length_drop
  exact ⟨_, c - m, by rw [hl], by rw [hl]; omega, hf⟩
set_option maxRecDepth 20000 in
set_option maxHeartbeats 4000000 in
theorem xx_calls (w : World) (A : Option Addr) (c : Nat) (b : List Int) (hC : (Kd.int .u8).C w A b.length b) (hcap : b.length ≤ c) (hb : Byts b) (hl : b.length ≤ 1000000000) :
    Calls Tryd.prog 18 #[.slice A b.length c] w fun e w' => e = .returned (.int .u64 (Xx.xx b)) ∧ Below w.heap.size w w' := by
  obtain ⟨OK, hOK⟩ : ∃ OK : Nat → Prop, OK = fun k => k < w.heap.size := ⟨_, rfl⟩
  have hok : ∀ k, OK k ↔ k < w.heap.size := fun k => by rw [hOK]
  clear hOK
  have hV : Kd.V (Kd.int .u8) 5 w 0 OK (.slice A b.length c) b := ⟨A, c, rfl, hcap, Kd.F_mono (Kd.C_F (Kd.heap_int .u8) hC) (fun k hk => (hok k).2 hk)⟩
  have HV := Lib.hid hV
  have HB := Lib.hid hb
  have HOK := Lib.hid hok
  have hw : ∀ x, IntKind.u64.wrap x = x % 18446744073709551616 := IntKind.wrap_u64
  clear hV hb hok hC
  go_enter Tryd.func18, Tryd.ntmps18
  go_upto_if 16 with fail
  go_cut [0, 4] (fun s0 sh wx => Hid (Kd.V (Kd.int .u8) 5 wx 0 OK s0 (Xx.r32 b)) ∧ sh = .int .u64 (Xx.start b) ∧ Hid (Below w.heap.size w wx))
  case first =>
    by_cases h32 : 32 ≤ b.length
    · have h32i : (32 : Int) ≤ (b.length : Int) := by omega
      go_wp2_with fail
      have H32 := Lib.hid h32
      clear h32i h32
      rename (32 : Int) ≤ (b.length : Int) => hh
      clear hh
      obtain ⟨w1, hw1⟩ : ∃ w1, w1 = w.alloc (.cells (nums .u64 (Xx.acc b 0)).toArray 60) := ⟨_, rfl⟩
      have k1 : Blk w1 w.heap.size .u64 60 (Xx.acc b 0) := by rw [hw1]; exact blk_new w _
      have b1 : Below w.heap.size w w1 := by rw [hw1]; exact (Below.refl _ w).alloc (Nat.le_refl _) _
      change Code.wp _ _ _ _ (w.alloc (.cells (nums .u64 (Xx.acc b 0)).toArray 60))
      rw [← hw1]
      clear hw1
      obtain ⟨J, hJ⟩ : ∃ J, J = b.length / 32 := ⟨_, rfl⟩
      have hJ1 : 32 * J ≤ b.length := by omega
      have hJ2 : b.length < 32 * J + 32 := by omega
      have HJ := Lib.hid hJ
      have K1 := Lib.hid k1
      have B1 := Lib.hid b1
      have V1 := Lib.hid (Kd.V_below HV.out (below_lower' b1 (Nat.le_refl _)))
      clear hJ k1 b1
      go_loopg [0] J (fun kq s0 wr => ∃ (j : Nat) (xs : List Int), j + kq = J ∧ 32 * kq ≤ xs.length ∧ xs.length < 32 * kq + 32 ∧ Hid (xs = b.drop (32 * j)) ∧ Hid (Kd.V (Kd.int .u8) 5 wr 0 OK s0 xs) ∧ Hid (Blk wr w.heap.size .u64 60 (Xx.acc b j)) ∧ Hid (Below w.heap.size w wr))
      case atStart => exact ⟨0, b, by omega, hJ1, hJ2, rfl, V1.out, K1.out, B1.out⟩
      case round =>
        obtain ⟨j, xs, hj, hx1, hx2, hX, hVx, hA, hBr⟩ := hrel
        obtain ⟨A3, c3, hs0⟩ := Kd.V_slice hVx.out
        subst hs0
        have hVa := Kd.V_at hVx.out
        have hc3 := hVa.2.1
        obtain ⟨AC, hAC⟩ : ∃ AC, AC = Xx.acc b j := ⟨_, rfl⟩
        have hACl : AC.length = 4 := by rw [hAC]; exact acc_length b j
        rw [← hAC] at hA
        have HAC := Lib.hid hAC
        clear hAC
        have hbx : Byts xs := fun y hy => by
          rw [hX.out] at hy
          exact HB.out y (List.mem_of_mem_drop hy)
        have HBX := Lib.hid hbx
        have HF := Lib.hid hVa.2.2
        clear hbx hVa
        by_cases hlt : 0 < gk
        · obtain ⟨ST, hST⟩ : ∃ ST, ST = Xx.stripe AC xs := ⟨_, rfl⟩
          have hSTl : ST.length = AC.length := by rw [hST, hACl]; rfl
          have HST := Lib.hid hST
          have h0 : Hid (Blk wr w.heap.size .u64 60 (ST.take 0 ++ AC.drop 0)) := hA
          have hx32 : 32 ≤ xs.length := by omega
          have HCUT := Lib.hid (V_cutN 32 (by decide) hVx.out hx32)
          have HX1 := Lib.hid hx1
          have HX2 := Lib.hid hx2
          have HAL := Lib.hid hACl
          have HSL := Lib.hid hSTl
          clear hx1 hx2 hA hST hACl hSTl
          have i32 : (32 : Int) ≤ (xs.length : Int) := by omega
          have i33 : (xs.length : Int) ≤ (c3 : Int) := by omega
          have i34 : (32 : Int) ≤ (c3 : Int) := by omega
          generalize gk = GK at *
          generalize wr = wq at hVx HF HCUT hBr h0 ⊢
          go_wp2_with fail
          go_loopg [31] 4 (fun kq si wr => ∃ i : Nat, i + kq = 4 ∧ si = .int .i64 i ∧ Hid (Blk wr w.heap.size .u64 60 (ST.take i ++ AC.drop i)) ∧ Hid (Below w.heap.size w wr) ∧ Hid (∀ k, k ≠ w.heap.size → wr.heap[k]? = wq.heap[k]?))
          case atStart => exact ⟨0, by omega, rfl, h0.out, hBr.out, fun _ _ => rfl⟩
          case round =>
            obtain ⟨i, hi, rfl, hz, hBz, hOz⟩ := hrel
            have hACl := HAL.out
            have hSTl := HSL.out
            by_cases hlt : i < 4
            · have c0 := hz.out.get i (by rw [mixN_len' ST AC i hSTl (by omega)]; omega)
              rw [mixN_get' ST AC i hSTl (by omega)] at c0
              have f0 := hz.out.free i
              obtain ⟨a, ha⟩ : ∃ a, a = AC.getD i 0 := ⟨_, rfl⟩
              rw [← ha] at c0
              obtain ⟨ys, hys⟩ : ∃ ys, ys = (xs.take (8 * i + 8)).drop (8 * i) := ⟨_, rfl⟩
              have hysl : ys.length = 8 := by rw [hys, List.length_drop, List.length_take]; omega
              have hby : Byts ys := fun y hy => by
                rw [hys] at hy
                exact HBX.out y (List.mem_of_mem_take (List.mem_of_mem_drop hy))
              have hFz : Kd.F (Kd.int .u8) wr OK A3 xs.length xs := Kd.F_step HF.out (fun k hk hk2 => hOz.out k (by have := (HOK.out k).1 hk; omega))
              have hCy : (Kd.int .u8).C wr.drew (A3.map (·.add (8 * i))) ys.length ys := by
                have h := Kd.C_mid (lo := 8 * i) (hi := 8 * i + 8) (Kd.F_now hFz) (by omega) (by omega) hc3
                have e1 : 8 * i * (Kd.int .u8).sz = 8 * i := Nat.mul_one _
                rw [if_neg (by omega), e1, ← hys] at h
                exact Kd.C_drew h
              have hlow := xlow_calls wr.drew (A3.map (·.add (8 * i))) (c3 - 8 * i) ys hCy hby (by omega)
              rw [hysl] at hlow
              have HLOW := Lib.hid hlow
              have hsti : ST.getD i 0 = Xx.round a (Xx.le ys) := by
                rw [HST.out, ha, hys]
                unfold Xx.stripe
                rw [List.getD_eq_getElem?_getD, List.getElem?_map, List.getElem?_range hlt, List.drop_take, show 8 * i + 8 - 8 * i = 8 by omega]
                rfl
              obtain ⟨L, hL⟩ : ∃ L, L = Xx.le ys := ⟨_, rfl⟩
              rw [← hL] at hsti HLOW
              have HSTI := Lib.hid hsti
              clear hL hys hysl hby hCy hlow hsti ha hFz
              have g0 : IntKind.i64.wrap (8 * (i : Int)) = 8 * (i : Int) := IntWalk.i64_in _ (by omega)
              have g1 : IntKind.i64.wrap (8 * (i : Int) + 8) = 8 * (i : Int) + 8 := IntWalk.i64_in _ (by omega)
              have g2 : (8 * (i : Int)).toNat = 8 * i := by omega
              have g3 : (8 * (i : Int) + 8).toNat = 8 * i + 8 := by omega
              have g4 : (0 : Int) ≤ 8 * (i : Int) := by omega
              have g5 : (0 : Int) ≤ 8 * (i : Int) + 8 := by omega
              have g6 : 8 * (i : Int) ≤ 8 * (i : Int) + 8 := by omega
              have g7 : 8 * (i : Int) + 8 ≤ (c3 : Int) := by omega
              have g8 : ¬ c3 = 8 * i := by omega
              have g9 : 8 * i + 8 - 8 * i = 8 := by omega
              have l0 : (i : Int) < 4 := by omega
              clear hACl hSTl
              go_upto_region 12 with fail
              go_region_with (first | (go_at_call 39; refine HLOW.out.mono ?_; rintro e w' ⟨rfl, rfl⟩) | (go_at_call 38; refine (xround_calls _ _ _).mono ?_; rintro e w' ⟨rfl, rfl⟩))
              all_goals
                go_wp2_with fail
                go_roundg (gk - 1)
                case measure => omega
                case rel =>
                  refine ⟨i + 1, by omega, by go_num, ?_, ?_, ?_⟩
                  · have h2 := Blk.put hz.out i (Xx.round a L)
                    rw [← HSTI.out] at h2 ⊢
                    exact Blk.cast h2 (mixN_set' ST AC i HSL.out (by rw [HAL.out]; exact hlt))
                  · exact (hBz.out.setCell (p := ⟨w.heap.size, i, none⟩) (Nat.le_refl _) _).drew
                  · exact fun k hk => (Below.heap_setCell _ _ _ k (by exact hk)).trans (hOz.out k hk)
            · have hi4 : i = 4 := by omega
              subst hi4
              have hz4 := hz.out
              rw [List.take_of_length_le (by omega), List.drop_of_length_le (by omega), List.append_nil] at hz4
              have HZ4 := Lib.hid hz4
              clear hz4 hACl hSTl hlt hi
              go_wp2_with fail
              all_goals
                go_roundg (GK - 1)
                case measure => omega
                case rel =>
                  have hcut := HCUT.out
                  first | rw [if_pos h] at hcut | rw [if_neg h] at hcut
                  have hx1 := HX1.out
                  have hx2 := HX2.out
                  have hld : (xs.drop 32).length = xs.length - 32 := List.length_drop
                  have hv := Kd.V_step hcut (w1 := wr) (fun k hk hk2 => hOz.out k (by have := (HOK.out k).1 hk; omega))
                  refine ⟨j + 1, xs.drop 32, by omega, by omega, by omega, ?_, ?_, ?_, hBz.out⟩
                  · show xs.drop 32 = b.drop (32 * (j + 1))
                    rw [hX.out, List.drop_drop]
                    rfl
                  · first | exact hv | (rw [show c3 - 32 = 0 by omega] at hv; exact hv)
                  · show Blk wr w.heap.size .u64 60 (Xx.acc b (j + 1))
                    rw [Xx.acc, ← HAC.out, ← hX.out, ← HST.out]
                    exact HZ4.out
        · have hjJ : j = J := by omega
          have h32n : ¬ (32 : Int) ≤ (xs.length : Int) := by omega
          have a0 := hA.out.get 0 (by omega)
          have a1 := hA.out.get 1 (by omega)
          have a2 := hA.out.get 2 (by omega)
          have a3 := hA.out.get 3 (by omega)
          obtain ⟨WH, hWH⟩ : ∃ WH, Xx.whole AC = WH := ⟨_, rfl⟩
          have hwh := hWH
          unfold Xx.whole at hwh
          obtain ⟨x0, hx0⟩ : ∃ x, x = AC.getD 0 0 := ⟨_, rfl⟩
          obtain ⟨x1, hx1'⟩ : ∃ x, x = AC.getD 1 0 := ⟨_, rfl⟩
          obtain ⟨x2, hx2'⟩ : ∃ x, x = AC.getD 2 0 := ⟨_, rfl⟩
          obtain ⟨x3, hx3⟩ : ∃ x, x = AC.getD 3 0 := ⟨_, rfl⟩
          rw [← hx0] at a0 hwh
          rw [← hx1'] at a1 hwh
          rw [← hx2'] at a2 hwh
          rw [← hx3] at a3 hwh
          have HXX := Lib.hid (And.intro hx0 (And.intro hx1' (And.intro hx2' hx3)))
          have HWH := Lib.hid hWH
          have HA := Lib.hid hA.out
          have HACL := Lib.hid hACl
          have HX12 := Lib.hid (And.intro hx1 hx2)
          clear hx0 hx1' hx2' hx3 hWH hA hACl hx1 hx2
          go_upto_region 14 with fail
          go_region_held3 (fun W => W.cell? ⟨w.heap.size, 0, none⟩ = some (.int .u64 x0) ∧ W.cell? ⟨w.heap.size, 1, none⟩ = some (.int .u64 x1) ∧ W.cell? ⟨w.heap.size, 2, none⟩ = some (.int .u64 x2) ∧ W.cell? ⟨w.heap.size, 3, none⟩ = some (.int .u64 x3)) (first | exact ⟨a0, a1, a2, a3⟩) (first | (go_at_call 40; refine (rot64_calls _ _ _ (by decide)).mono ?_; rintro e w' ⟨rfl, rfl⟩))
          have HAd : Hid (Blk wr.drew w.heap.size .u64 60 AC) := HA
          have HBd := Lib.hid hBr.out.drew
          have HVd := Lib.hid (Kd.V_drew hVx.out)
          have d0 : wr.drew.cell? ⟨w.heap.size, 0, none⟩ = some (.int .u64 x0) := a0
          have d1 : wr.drew.cell? ⟨w.heap.size, 1, none⟩ = some (.int .u64 x1) := a1
          have d2 : wr.drew.cell? ⟨w.heap.size, 2, none⟩ = some (.int .u64 x2) := a2
          have d3 : wr.drew.cell? ⟨w.heap.size, 3, none⟩ = some (.int .u64 x3) := a3
          clear hVx hBr HA a0 a1 a2 a3 HF h32n
          generalize gk = GK at *
          generalize wr.drew = wq at HAd HBd HVd d0 d1 d2 d3 ⊢
          go_wp2_with fail
          have HL4 : Hid ((nums .u64 AC).toArray = #[.int .u64 x0, .int .u64 x1, .int .u64 x2, .int .u64 x3]) := Lib.hid (by
            rw [HXX.out.1, HXX.out.2.1, HXX.out.2.2.1, HXX.out.2.2.2]
            exact four_list AC HACL.out)
          clear d0 d1 d2 d3
          go_loopg [4, 65] 4 (fun kq sh sk wr => ∃ k : Nat, k + kq = 4 ∧ sk = .int .i64 k ∧ sh = .int .u64 (Xx.merges AC WH k) ∧ wr = wq)
          case atStart => exact ⟨0, by omega, rfl, rfl, rfl⟩
          case round =>
            obtain ⟨k, hk, rfl, rfl, rfl⟩ := hrel
            by_cases hlt : k < 4
            · obtain ⟨y, hy⟩ : ∃ y, y = AC.getD k 0 := ⟨_, rfl⟩
              have hidx := index4_run wr AC k HACL.out hlt
              rw [← hy] at hidx
              rw [HL4.out] at hidx
              obtain ⟨G, hG⟩ : ∃ G, G = Xx.merges AC WH k := ⟨_, rfl⟩
              rw [← hG]
              have HYG := Lib.hid (And.intro hy hG)
              clear hy hG
              have lk : (k : Int) < 4 := by omega
              go_wp2_with (go_at_call 41; refine (xmerge_calls _ _ _).mono ?_; rintro e w' ⟨rfl, rfl⟩)
              go_roundg (gk - 1)
              case measure => omega
              case rel => exact ⟨k + 1, by omega, by go_num, by rw [Xx.merges, ← HYG.out.2, ← HYG.out.1], rfl⟩
            · have hk4 : k = 4 := by omega
              subst hk4
              go_wp2_with fail
              go_meet
              have e1 : xs = Xx.r32 b := by rw [hX.out, Xx.r32, hjJ, HJ.out]
              rw [← e1]
              have hst : Xx.start b = Xx.merges AC WH 4 := by
                rw [Xx.start, if_pos H32.out, ← HJ.out, ← hjJ, ← HAC.out, HWH.out]
              exact ⟨HVd.out, by rw [hst], HBd.out⟩
    · have h32i : ¬ (32 : Int) ≤ (b.length : Int) := by omega
      have hr : Xx.r32 b = b := by
        unfold Xx.r32
        rw [show b.length / 32 = 0 by omega]
        rfl
      have hs : Xx.start b = 2870177450012600261 := if_neg h32
      go_wp2_with fail
      go_meet
      exact ⟨by rw [hr]; exact HV.out, by rw [hs], Below.refl _ _⟩
  case rest =>
    obtain ⟨hVc, rfl, hBc⟩ := hcut
    obtain ⟨R, hR⟩ : ∃ R, R = Xx.r32 b := ⟨_, rfl⟩
    obtain ⟨S0, hS0⟩ : ∃ S0, S0 = Xx.start b := ⟨_, rfl⟩
    rw [← hR] at hVc
    rw [← hS0]
    obtain ⟨A3, c3, hs0⟩ := Kd.V_slice hVc.out
    subst hs0
    obtain ⟨H1, hH1⟩ : ∃ H1, (S0 + (b.length : Int)) % 18446744073709551616 = H1 := ⟨_, rfl⟩
    have hbR : Byts R := fun y hy => by
      rw [hR] at hy
      exact HB.out y (List.mem_of_mem_drop hy)
    have HBR := Lib.hid hbR
    have HR := Lib.hid hR
    have HS0 := Lib.hid hS0
    clear hbR hR hS0
    go_wp2_with fail
    have HH1 := Lib.hid hH1
    clear hH1
    obtain ⟨J, hJ⟩ : ∃ J, J = R.length / 8 := ⟨_, rfl⟩
    have hJ1 : 8 * J ≤ R.length := by omega
    have hJ2 : R.length < 8 * J + 8 := by omega
    have HJ := Lib.hid hJ
    clear hJ
    go_loopg [0, 4] J (fun kq s0 sh wr => ∃ (j : Nat) (xs : List Int), j + kq = J ∧ 8 * kq ≤ xs.length ∧ xs.length < 8 * kq + 8 ∧ Hid (xs = R.drop (8 * j)) ∧ Hid (Kd.V (Kd.int .u8) 5 wr 0 OK s0 xs) ∧ sh = .int .u64 (Xx.e8 R H1 j) ∧ wr = wc)
    case atStart => exact ⟨0, R, by omega, hJ1, hJ2, rfl, hVc.out, rfl, rfl⟩
    case round =>
      obtain ⟨j, xs, hj, hx1, hx2, hX, hVx, rfl, rfl⟩ := hrel
      obtain ⟨A4, c4, hs0⟩ := Kd.V_slice hVx.out
      subst hs0
      have hVa := Kd.V_at hVx.out
      have hc4 := hVa.2.1
      have hbx : Byts xs := fun y hy => by
        rw [hX.out] at hy
        exact HBR.out y (List.mem_of_mem_drop hy)
      obtain ⟨G, hG⟩ : ∃ G, G = Xx.e8 R H1 j := ⟨_, rfl⟩
      rw [← hG]
      have HG := Lib.hid hG
      have HBX := Lib.hid hbx
      clear hG hbx
      by_cases hlt : 0 < gk
      · have hx8 : 8 ≤ xs.length := by omega
        have HCUT := Lib.hid (V_cutN 8 (by decide) hVx.out hx8)
        have hCy := Kd.C_take (m := 8) (Kd.F_now hVa.2.2) hx8
        have hl8 : (xs.take 8).length = 8 := by rw [List.length_take]; omega
        have hlow := xlow_calls wr A4 c4 (xs.take 8) hCy (fun y hy => HBX.out y (List.mem_of_mem_take hy)) (by omega)
        obtain ⟨L, hL⟩ : ∃ L, L = Xx.le (xs.take 8) := ⟨_, rfl⟩
        rw [hl8, ← hL] at hlow
        have HLOW := Lib.hid hlow
        have HL := Lib.hid hL
        have HX1 := Lib.hid hx1
        have HX2 := Lib.hid hx2
        have i32 : (8 : Int) ≤ (xs.length : Int) := by omega
        have i33 : (xs.length : Int) ≤ (c4 : Int) := by omega
        have i34 : (8 : Int) ≤ (c4 : Int) := by omega
        clear hx1 hx2 hCy hl8 hlow hL hVa
        go_wp2_with (first | (go_at_call 39; refine HLOW.out.mono ?_; rintro e w' ⟨rfl, rfl⟩) | (go_at_call 38; refine (xround_calls _ _ _).mono ?_; rintro e w' ⟨rfl, rfl⟩) | (go_at_call 40; refine (rot64_calls _ _ _ (by decide)).mono ?_; rintro e w' ⟨rfl, rfl⟩))
        all_goals
          go_roundg (gk - 1)
          case measure => omega
          case rel =>
            have hcut := HCUT.out
            first | rw [if_pos h] at hcut | rw [if_neg h] at hcut
            have hx1 := HX1.out
            have hx2 := HX2.out
            have hld : (xs.drop 8).length = xs.length - 8 := List.length_drop
            refine ⟨j + 1, xs.drop 8, by omega, by omega, by omega, ?_, ?_, ?_, rfl⟩
            · show xs.drop 8 = R.drop (8 * (j + 1))
              rw [hX.out, List.drop_drop]
              rfl
            · first | exact hcut | (rw [show c4 - 8 = 0 by omega] at hcut; exact hcut)
            · rw [Xx.e8, ← HG.out, ← hX.out, ← HL.out]
              rfl
      · have hjJ : j = J := by omega
        have h8n : ¬ (8 : Int) ≤ (xs.length : Int) := by omega
        have hx8 : xs = Xx.r8 b := by rw [hX.out, hjJ, HJ.out, Xx.r8, ← HR.out]
        have hg8 : G = Xx.h8 b := by rw [HG.out, hjJ, HJ.out, Xx.h8, ← HR.out, ← HS0.out, HH1.out]
        have HX8 := Lib.hid (And.intro hx8 hg8)
        clear hx1 hx2 hx8 hg8 hVa
        generalize gk = GK at *
        go_upto_if 91 with fail
        clear h8n
        go_cut [0, 4] (fun s0 sh wx => wx = wr ∧ ∃ (zs : List Int) (Z : Int), Hid (Kd.V (Kd.int .u8) 5 wx 0 OK s0 zs) ∧ sh = .int .u64 Z ∧ Hid (zs = Xx.r4 b) ∧ Hid (Z = Xx.h4 b))
        case first =>
          by_cases h4 : 4 ≤ xs.length
          · have h4i : (4 : Int) ≤ (xs.length : Int) := by omega
            have HCUT := Lib.hid (V_cutN 4 (by decide) hVx.out h4)
            have hCy := Kd.C_take (m := 4) (Kd.F_now (Kd.V_at hVx.out).2.2) h4
            have hl4 : (xs.take 4).length = 4 := by rw [List.length_take]; omega
            have hlow := xlow_calls wr A4 c4 (xs.take 4) hCy (fun y hy => HBX.out y (List.mem_of_mem_take hy)) (by omega)
            obtain ⟨L, hL⟩ : ∃ L, L = Xx.le (xs.take 4) := ⟨_, rfl⟩
            rw [hl4, ← hL] at hlow
            have HLOW := Lib.hid hlow
            have HL := Lib.hid hL
            have H4 := Lib.hid h4
            have i33 : (xs.length : Int) ≤ (c4 : Int) := by omega
            have i34 : (4 : Int) ≤ (c4 : Int) := by omega
            clear hCy hl4 hlow hL h4
            go_wp2_with (first | (go_at_call 39; refine HLOW.out.mono ?_; rintro e w' ⟨rfl, rfl⟩) | (go_at_call 40; refine (rot64_calls _ _ _ (by decide)).mono ?_; rintro e w' ⟨rfl, rfl⟩))
            all_goals
              go_meet
              have hcut := HCUT.out
              first | rw [if_pos h] at hcut | rw [if_neg h] at hcut
              refine ⟨rfl, xs.drop 4, _, ?_, rfl, ?_, ?_⟩
              · first | exact hcut | (rw [show c4 - 4 = 0 by omega] at hcut; exact hcut)
              · show xs.drop 4 = Xx.r4 b
                rw [Xx.r4, ← HX8.out.1, if_pos H4.out]
              · have e : Xx.h4 b = Xx.e4 xs G := by rw [Xx.h4, ← HX8.out.1, if_pos H4.out, ← HX8.out.2]
                rw [e, Xx.e4, ← HL.out]
                rfl
          · have h4i : ¬ (4 : Int) ≤ (xs.length : Int) := by omega
            go_wp2_with fail
            go_meet
            refine ⟨rfl, xs, G, hVx.out, rfl, ?_, ?_⟩
            · show xs = Xx.r4 b
              rw [Xx.r4, ← HX8.out.1, if_neg h4]
            · show G = Xx.h4 b
              rw [Xx.h4, ← HX8.out.1, if_neg h4, HX8.out.2]
        case rest =>
          obtain ⟨rfl, zs, Z, hVz, rfl, hZ, hZ4⟩ := hcut
          obtain ⟨A5, c5, hs0⟩ := Kd.V_slice hVz.out
          subst hs0
          have HC5 := Lib.hid (Kd.F_now (Kd.V_at hVz.out).2.2)
          have hbz : Byts zs := fun y hy => by
            have hz := hZ.out
            rw [hz] at hy
            have hy8 : y ∈ Xx.r8 b := by
              unfold Xx.r4 at hy
              split at hy
              · exact List.mem_of_mem_drop hy
              · exact hy
            rw [← HX8.out.1] at hy8
            exact HBX.out y hy8
          have HBZ := Lib.hid hbz
          have hzl : zs.length ≤ 1000000000 := by
            have hz := hZ.out
            have h4 : (Xx.r4 b).length ≤ (Xx.r8 b).length := by
              unfold Xx.r4
              split
              · rw [List.length_drop]; omega
              · exact Nat.le_refl _
            have h8 : (Xx.r8 b).length ≤ b.length := by
              unfold Xx.r8 Xx.r32
              rw [List.length_drop, List.length_drop]
              omega
            rw [hz]
            omega
          clear hbz
          go_wp2_with fail
          generalize wc = wq at *
          go_loopg [4, 105] zs.length (fun kq sh si wr => ∃ i : Nat, i + kq = zs.length ∧ si = .int .i64 i ∧ sh = .int .u64 (Xx.e1 zs Z i) ∧ wr = wq)
          case atStart => exact ⟨0, by omega, rfl, rfl, rfl⟩
          case round =>
            obtain ⟨i, hi, rfl, rfl, rfl⟩ := hrel
            obtain ⟨G2, hG2⟩ : ∃ G, G = Xx.e1 zs Z i := ⟨_, rfl⟩
            rw [← hG2]
            have HG2 := Lib.hid hG2
            clear hG2
            have hcz := (Kd.V_at hVz.out).2.1
            by_cases hlt : i < zs.length
            · obtain ⟨ad, hA, c0⟩ := C_at_int HC5.out i hlt
              subst hA
              have hbx := HBZ.out.get i hlt
              obtain ⟨x, hx⟩ : ∃ x, x = zs.getD i 0 := ⟨_, rfl⟩
              rw [← hx] at c0 hbx
              have e2 : IntKind.u64.wrap x = x := by rw [IntKind.wrap_u64]; omega
              have HX := Lib.hid hx
              have li : (i : Int) < (zs.length : Int) := by omega
              clear hx
              have hwx : x % 18446744073709551616 = x := by omega
              go_wp2_with (go_at_call 40; refine (rot64_calls _ _ _ (by decide)).mono ?_; rintro e w' ⟨rfl, rfl⟩)
              go_roundg (gk - 1)
              case measure => omega
              case rel =>
                refine ⟨i + 1, by omega, by go_num, ?_, rfl⟩
                rw [Xx.e1, ← HG2.out, ← HX.out]
                rfl
            · have hiz : i = zs.length := by omega
              have HIZ := Lib.hid hiz
              clear hiz
              go_wp2_with fail
              go_ret
              have e : Xx.xx b = Xx.last G2 := by rw [Xx.xx, ← hZ.out, ← hZ4.out, ← HIZ.out, ← HG2.out]
              refine ⟨?_, hBc.out⟩
              rw [e]
              rfl
end Go.Proofs.YtclndenmmhdokaaDoor
