/- Contract of the law PlanGame: it returns true for every course. -/
import Derived.Test.YtnmocdfogdcliaaSane
import Derived.Test.YtnmocdfogdcliaaOpen
import Derived.Test.YtnmocdfogdcliaaGame
import Derived.Deep.CutRange
namespace Go.Proofs.Ytnmocdfogdcliaa
open Go.RowKit

set_option maxRecDepth 100000 in
set_option maxHeartbeats 8000000 in
theorem game_7 {PA : Option Addr} {n pc : Nat} {cp st fl : Int} {lo hi dm ou sp : Nat → Int} (B : Nat) (w : World) (hn : n ≤ 9223372036854775807) (hB : B ≤ w.heap.size) (hr : Rd w B PA (n * 5) (psc lo hi dm ou sp)) :
    Calls Try.prog 7 #[(.agg #[.int .i64 cp, .int .i64 st, .int .i64 fl, .slice PA n pc])] w fun e w' => e = .returned (.bool true) ∧ Below w.heap.size w w' := by
  obtain ⟨w0, hw0⟩ : ∃ zz, zz = w.alloc (.cells #[.int .i64 cp, .int .i64 st, .int .i64 fl, .slice PA n pc] 26) := ⟨_, rfl⟩
  have HK0 : Hid (Blk w0 w.heap.size 26 #[.int .i64 cp, .int .i64 st, .int .i64 fl, .slice PA n pc]) := Lib.hid (hw0 ▸ Blk.new _ _ _)
  have HB0 : Hid (Below w.heap.size w w0) := Lib.hid (hw0 ▸ below_alloc _ _)
  have HW := Lib.hid hw0
  have HRD := Lib.hid hr
  have H12 : Hid (∀ W, Below w.heap.size w W → Calls Try.prog 12 #[(.agg #[.int .i64 cp, .int .i64 st, .int .i64 fl, .slice PA n pc])] W fun e w' => RobR (chkE cp st fl n lo hi dm ou sp) n (rb cp fl n lo hi dm ou sp) e w' ∧ Below W.heap.size W w') := Lib.hid fun W h => Robust_12 B W hn (by have := h.size; omega) (hr.below (h.mono hB))
  have H14 : Hid (∀ W, Below w.heap.size w W → Calls Try.prog 14 #[(.agg #[.int .i64 cp, .int .i64 st, .int .i64 fl, .slice PA n pc])] W fun e w' => e = .returned (.int .i64 (chkE cp st fl n lo hi dm ou sp)) ∧ Below W.heap.size W w') := Lib.hid fun W h => Check_14 B W hn (by have := h.size; omega) (hr.below (h.mono hB))
  have HG : Hid ((chkE cp st fl n lo hi dm ou sp) = 0 → Good cp fl n lo hi dm ou sp) := Lib.hid good_of
  have HEND : Hid (rb cp fl n lo hi dm ou sp n = (fl, cp)) := Lib.hid rb_end
  have HGM : Hid ((chkE cp st fl n lo hi dm ou sp) = 0 → ∀ t, t < n → ∀ x : Int, x ≤ cp → ∃ (SJ : Nat → Bool) (AJ : Nat → Nat → Bool), SJ 0 = false ∧ (∀ j, SJ (j + 1) = (SJ j || AJ j (hi t - lo t + 1).toNat)) ∧ SJ (min (ou t) x - dm t + 1).toNat = ri3 (rb cp fl n lo hi dm ou sp t).1 x (rb cp fl n lo hi dm ou sp t).2 ∧ (∀ j, AJ j 0 = true) ∧
      ∀ j i, AJ j (i + 1) = (AJ j i && (decide (x - (dm t + (j : Nat)) + (lo t + (i : Nat)) ≤ cp + sp t) && ri3 (rb cp fl n lo hi dm ou sp (t + 1)).1 (min (x - (dm t + (j : Nat)) + (lo t + (i : Nat))) cp) (rb cp fl n lo hi dm ou sp (t + 1)).2))) := Lib.hid fun hc t ht x hx => game_ex (good_of hc) ht hx
  clear hw0 hr hn
  generalize rb cp fl n lo hi dm ou sp = F at *
  generalize (chkE cp st fl n lo hi dm ou sp) = CE at H12 H14 HG HGM
  go_enter Try.func7, Try.ntmps7
  go_upto_region 1 with fail
  rw [← HW.out]
  clear HW
  go_wp2_with fail
  refine (sane_11 _).mono ?_
  rintro e w1 ⟨rfl, hb⟩
  have HB1 := Lib.hid (HB0.out.trans (hb.mono HB0.out.size))
  have HK1 := Lib.hid (HK0.out.below hb HK0.out.lt)
  clear hb HB0 HK0
  have c0 : w1.cell? ⟨w.heap.size, 0, none⟩ = some (.int .i64 cp) := HK1.out.cell 0
  have c1 : w1.cell? ⟨w.heap.size, 1, none⟩ = some (.int .i64 st) := HK1.out.cell 1
  have c2 : w1.cell? ⟨w.heap.size, 2, none⟩ = some (.int .i64 fl) := HK1.out.cell 2
  have c3 : w1.cell? ⟨w.heap.size, 3, none⟩ = some (.slice PA n pc) := HK1.out.cell 3
  have c3' : w1.cell? ⟨w.heap.size, 2 + 1, none⟩ = some (.slice PA n pc) := HK1.out.cell 3
  by_cases h30 : 30 < cp
  · have h30d : decide (30 < cp) = true := by simpa using h30
    go_wp2_with fail
    go_ret
    exact ⟨rfl, HB1.out⟩
  have h30d : decide (30 < cp) = false := by simpa using h30
  by_cases h5 : 5 < (n : Int)
  · have h5d : decide (5 < (n : Int)) = true := by simpa using h5
    go_wp2_with fail
    go_ret
    exact ⟨rfl, HB1.out⟩
  have h5d : decide (5 < (n : Int)) = false := by simpa using h5
  have h5n : n ≤ 5 := by omega
  go_wp2_with fail
  refine (H14.out _ HB1.out).mono ?_
  rintro e w2 ⟨rfl, hb⟩
  have HB2 := Lib.hid (HB1.out.trans (hb.mono HB1.out.size))
  have HK2 := Lib.hid (HK1.out.below hb HK1.out.lt)
  clear hb HB1 HK1 c0 c1 c2 c3 c3'
  by_cases hCE : ¬ CE = 0
  · have h1e : (CE != 0) = true := by simpa using hCE
    go_wp2_with fail
    go_ret
    exact ⟨rfl, HB2.out⟩
  have hCE : CE = 0 := by omega
  subst hCE
  have HGG := Lib.hid (HG.out rfl)
  have HGM2 := Lib.hid (HGM.out rfl)
  clear HG HGM
  have c0 : w2.cell? ⟨w.heap.size, 0, none⟩ = some (.int .i64 cp) := HK2.out.cell 0
  have c1 : w2.cell? ⟨w.heap.size, 1, none⟩ = some (.int .i64 st) := HK2.out.cell 1
  have c2 : w2.cell? ⟨w.heap.size, 2, none⟩ = some (.int .i64 fl) := HK2.out.cell 2
  have c3 : w2.cell? ⟨w.heap.size, 3, none⟩ = some (.slice PA n pc) := HK2.out.cell 3
  go_wp2_with fail
  refine (H12.out _ HB2.out).mono ?_
  rintro e w3 ⟨⟨A1, k1, m1, rfl, hz1, -⟩, hb⟩
  obtain ⟨rfl, rfl, hrow⟩ := hz1 rfl
  have HB3 := Lib.hid (HB2.out.trans (hb.mono HB2.out.size))
  have HK3 := Lib.hid (HK2.out.below hb HK2.out.lt)
  have HROW3 := Lib.hid hrow
  clear hb HB2 HK2 hz1 hrow H12 H14 c0 c1 c2 c3
  obtain ⟨b1, o1, rfl, hb1, p0, p1⟩ := rng_at HROW3.out (show n < n + 1 by omega)
  rw [HEND.out] at p0 p1
  simp only at p0 p1
  have c0 : w3.cell? ⟨w.heap.size, 0, none⟩ = some (.int .i64 cp) := HK3.out.cell 0
  have c2 : w3.cell? ⟨w.heap.size, 2, none⟩ = some (.int .i64 fl) := HK3.out.cell 2
  have c2' : w3.cell? ⟨w.heap.size, 1 + 1, none⟩ = some (.int .i64 fl) := HK3.out.cell 2
  have c3 : w3.cell? ⟨w.heap.size, 3, none⟩ = some (.slice PA n pc) := HK3.out.cell 3
  have c3' : w3.cell? ⟨w.heap.size, 2 + 1, none⟩ = some (.slice PA n pc) := HK3.out.cell 3
  have hw1 : IntKind.i64.wrap ((n : Int) + 1) = n + 1 := IntWalk.i64_in _ ⟨by omega, by omega⟩
  have hn1 : (n : Int) < (n : Int) + 1 := by omega
  have hn2 : n < n + 1 := by omega
  have hcp := HGG.out.2.1
  have HFL := Lib.hid hcp
  clear hcp h30 h5
  go_upto_region 6 with fail
  go_quiet (fail)
  have HB4 : Hid (Below w.heap.size w (w3.drewN nq)) := Lib.hid (below_quiet HB3.out ⟨nq, rfl⟩)
  have HK4 := Lib.hid (HK3.out.drewN nq)
  have HROW4 : Hid (Rd (w3.drewN nq) w3.heap.size (some ⟨b1, o1, none⟩) ((n + 1) * 2) (rsc F)) := Lib.hid (HROW3.out.drewN nq)
  have hz34 : w3.heap.size ≤ (w3.drewN nq).heap.size := by simp
  clear HB3 HK3 HROW3 p0 p1 c0 c2 c2' c3 c3'
  generalize w3.drewN nq = w4 at *
  generalize w3.heap.size = B1 at *
  clear w3
  have hz4 := HB4.out.size
  have c3 : w4.cell? ⟨w.heap.size, 3, none⟩ = some (.slice PA n pc) := HK4.out.cell 3
  have c3' : w4.cell? ⟨w.heap.size, 2 + 1, none⟩ = some (.slice PA n pc) := HK4.out.cell 3
  go_wp2_with fail
  clear c3 c3'
  go_loopw [64] (fun i wr => ∃ k : Nat, k ≤ n ∧ i = .int .i64 k ∧ Below w4.heap.size w4 wr) (fun i _ => n - (intOf i).toNat)
  case atStart => exact ⟨0, Nat.zero_le _, rfl, Below.refl _ _⟩
  case round =>
    obtain ⟨k, hk, rfl, hb⟩ := hrel
    have HL := Lib.hid hb
    have HBr := Lib.hid (HB4.out.trans (hb.mono hz4))
    have HKr := Lib.hid (HK4.out.below hb HK4.out.lt)
    have HRr := Lib.hid ((HROW4.out.below (hb.mono hz34)).mono (show B1 ≤ wr.heap.size by have := hb.size; omega))
    clear hb
    by_cases hlt : ¬ k < n
    · have hlt' : ¬ (k : Int) < n := by omega
      go_wp2_with fail
      go_ret
      exact ⟨rfl, HBr.out⟩
    · have hlt : k < n := by omega
      have hlt' : (k : Int) < n := by omega
      obtain ⟨⟨g1, g2, g3⟩, ⟨g4, g5, g6⟩, g7, g8⟩ := HGG.out.2.2.2 k hlt
      obtain ⟨hcp0, hcp1⟩ := HFL.out
      have hcp30 : cp ≤ 30 := by simpa using h30d
      obtain ⟨b, o, rfl, _, q0, q1, q2, q3, q4⟩ := per_at (HRD.out.below (HBr.out.mono hB)) hlt
      obtain ⟨b1', o1', e', hb1r, r0, r1⟩ := rng_at HRr.out (show k < n + 1 by omega)
      injection e' with e'
      injection e' with e1 e2
      subst e1 e2
      obtain ⟨b1', o1', e', _, s0, s1⟩ := rng_at HRr.out (show k + 1 < n + 1 by omega)
      injection e' with e'
      injection e' with e1 e2
      subst e1 e2
      have hk1 : (k : Int) < (n : Int) + 1 := by omega
      have hk2 : k < n + 1 := by omega
      have HGK := Lib.hid (HGM2.out k hlt)
      obtain ⟨m, hm⟩ : ∃ m : Nat, m = k + 1 := ⟨_, rfl⟩
      rw [← hm] at s0 s1 HGK
      have hwm : IntKind.i64.wrap ((k : Int) + 1) = (m : Int) := by rw [IntWalk.i64_in _ ⟨by omega, by omega⟩, hm]; rfl
      have hm1 : (m : Int) < (n : Int) + 1 := by omega
      have hm2 : m < n + 1 := by omega
      have HM := Lib.hid hm
      clear hm
      generalize (F k).1 = R1 at *
      generalize (F k).2 = R2 at *
      generalize (F m).1 = S1 at *
      generalize (F m).2 = S2 at *
      generalize lo k = z0 at *
      generalize hi k = z1 at *
      generalize dm k = z2 at *
      generalize ou k = z3 at *
      generalize sp k = z4 at *
      go_upto_region 11 with fail
      obtain ⟨e1, he1⟩ : ∃ zz, zz = wr.alloc (.cells #[.int .i64 z0, .int .i64 z1, .int .i64 z2, .int .i64 z3, .int .i64 z4] 50) := ⟨_, rfl⟩
      have HP1 : Hid (Blk e1 wr.heap.size 50 #[.int .i64 z0, .int .i64 z1, .int .i64 z2, .int .i64 z3, .int .i64 z4]) := Lib.hid (he1 ▸ Blk.new _ _ _)
      have HL1 : Hid (Below w4.heap.size w4 e1) := Lib.hid (he1 ▸ HL.out.alloc HL.out.size _)
      have HC1 : Hid (Blk e1 w.heap.size 26 #[.int .i64 cp, .int .i64 st, .int .i64 fl, .slice (some ⟨b, o, none⟩) n pc]) := Lib.hid (he1 ▸ HKr.out.alloc _)
      have p0 : e1.cell? ⟨b1, o1 + k * 2, none⟩ = some (.int .i64 R1) := he1 ▸ (World.cell?_alloc_lt wr _ ⟨b1, o1 + k * 2, none⟩ (World.block_lt_of_cell? wr _ r0)).trans r0
      have p1 : e1.cell? ⟨b1, o1 + k * 2 + 1, none⟩ = some (.int .i64 R2) := he1 ▸ (World.cell?_alloc_lt wr _ ⟨b1, o1 + k * 2 + 1, none⟩ (World.block_lt_of_cell? wr _ r1)).trans r1
      have p2 : e1.cell? ⟨b1, o1 + m * 2, none⟩ = some (.int .i64 S1) := he1 ▸ (World.cell?_alloc_lt wr _ ⟨b1, o1 + m * 2, none⟩ (World.block_lt_of_cell? wr _ s0)).trans s0
      have p3 : e1.cell? ⟨b1, o1 + m * 2 + 1, none⟩ = some (.int .i64 S2) := he1 ▸ (World.cell?_alloc_lt wr _ ⟨b1, o1 + m * 2 + 1, none⟩ (World.block_lt_of_cell? wr _ s1)).trans s1
      have hb1e : b1 < e1.heap.size := by rw [he1]; simp; omega
      rw [← he1]
      clear he1 HL HBr HKr HRr q0 q1 q2 q3 q4 r0 r1 s0 s1 hb1r
      generalize wr.heap.size = xb at *
      clear wr
      have HB5 : Hid (Below w.heap.size w e1) := Lib.hid (HB4.out.trans (HL1.out.mono hz4))
      have x1 : e1.cell? ⟨xb, 1, none⟩ = some (.int .i64 z1) := HP1.out.cell 1
      have x1' : e1.cell? ⟨xb, 0 + 1, none⟩ = some (.int .i64 z1) := HP1.out.cell 1
      by_cases h60 : 60 < z1
      · have h60d : decide (60 < z1) = true := by simpa using h60
        go_wp2_with fail
        go_ret
        exact ⟨rfl, HB5.out⟩
      have h60d : decide (60 < z1) = false := by simpa using h60
      have HPR : Hid (∀ W, Below e1.heap.size e1 W → W.cell? ⟨w.heap.size, 0, none⟩ = some (.int .i64 cp) ∧ W.cell? ⟨xb, 0, none⟩ = some (.int .i64 z0) ∧ W.cell? ⟨xb, 1, none⟩ = some (.int .i64 z1) ∧ W.cell? ⟨xb, 2, none⟩ = some (.int .i64 z2) ∧ W.cell? ⟨xb, 3, none⟩ = some (.int .i64 z3) ∧ W.cell? ⟨xb, 4, none⟩ = some (.int .i64 z4) ∧ W.cell? ⟨b1, o1 + k * 2, none⟩ = some (.int .i64 R1) ∧ W.cell? ⟨b1, o1 + k * 2 + 1, none⟩ = some (.int .i64 R2) ∧ W.cell? ⟨b1, o1 + m * 2, none⟩ = some (.int .i64 S1) ∧ W.cell? ⟨b1, o1 + m * 2 + 1, none⟩ = some (.int .i64 S2)) := Lib.hid fun W h => by
        have y := HC1.out.below h HC1.out.lt
        have z := HP1.out.below h HP1.out.lt
        exact ⟨y.cell 0, z.cell 0, z.cell 1, z.cell 2, z.cell 3, z.cell 4, (h.cell (p := ⟨b1, o1 + k * 2, none⟩) hb1e).trans p0, (h.cell (p := ⟨b1, o1 + k * 2 + 1, none⟩) hb1e).trans p1, (h.cell (p := ⟨b1, o1 + m * 2, none⟩) hb1e).trans p2, (h.cell (p := ⟨b1, o1 + m * 2 + 1, none⟩) hb1e).trans p3⟩
      have c0 : e1.cell? ⟨w.heap.size, 0, none⟩ = some (.int .i64 cp) := HC1.out.cell 0
      have hwc : IntKind.i64.wrap (cp + 1) = cp + 1 := IntWalk.i64_in _ ⟨by omega, by omega⟩
      have hwcs : IntKind.i64.wrap (cp + z4) = cp + z4 := IntWalk.i64_in _ ⟨by omega, by omega⟩
      obtain ⟨CQ, hCQ⟩ : ∃ CQ, CQ = (z1 - z0 + 1).toNat := ⟨_, rfl⟩
      rw [← hCQ] at HGK
      have HCQ := Lib.hid hCQ
      clear hCQ h60
      clear p0 p1 p2 p3 HC1 HP1
      have HN := Lib.hid (And.intro (And.intro g1 g2) (And.intro (And.intro g4 (And.intro g5 g6)) (And.intro g7 (And.intro g8 (And.intro hcp0 (And.intro hcp1 hcp30))))))
      clear g1 g2 g3 g4 g5 g6 g7 g8 hcp0 hcp1 hcp30
      go_wp2_with fail
      clear c0 x1 x1'
      go_loopw [77] (fun i wr => ∃ x : Nat, (x : Int) ≤ cp + 1 ∧ i = .int .i64 x ∧ Below e1.heap.size e1 wr) (fun i _ => (cp + 1).toNat - (intOf i).toNat)
      case atStart => exact ⟨0, by have := HN.out.2.2.2.2.1; omega, rfl, Below.refl _ _⟩
      case round =>
        obtain ⟨x, hx, rfl, hb⟩ := hrel
        have HD1 := Lib.hid hb
        clear hb
        by_cases hlx : ¬ (x : Int) < cp + 1
        · go_wp2_with fail
          go_roundw
          case rel => exact ⟨m, by have := HM.out; omega, rfl, HL1.out.trans (HD1.out.mono HL1.out.size)⟩
          case measure => have := HM.out; simp [intOf]; omega
        · have hlx : (x : Int) < cp + 1 := by omega
          have hx30 : (x : Int) ≤ 30 := by have := HN.out; omega
          obtain ⟨c0, x0, x1, x2, x3, x4, p0, p1, p2, p3⟩ := HPR.out _ HD1.out
          have x2' : wr.cell? ⟨xb, 1 + 1, none⟩ = some (.int .i64 z2) := x2
          obtain ⟨SJ, AJ, hs0, hss, hse, ha0, has⟩ := HGK.out x (by omega)
          have HS0 := Lib.hid hs0
          have HSS := Lib.hid hss
          have HSE := Lib.hid hse
          have HA0 := Lib.hid ha0
          have HAS := Lib.hid has
          clear hs0 hss hse ha0 has
          obtain ⟨CN, hCN⟩ : ∃ CN, CN = (min z3 (x : Int) - z2 + 1).toNat := ⟨_, rfl⟩
          rw [← hCN] at HSE
          have HCN := Lib.hid hCN
          clear hCN
          go_wp2_with fail
          clear c0 x0 x1 x2 x2' x3 x4 p0 p1 p2 p3
          go_loopw [8, 9] (fun s8 s9 wr2 => ∃ j : Nat, j ≤ CN ∧ s8 = .bool (SJ j) ∧ s9 = .int .i64 (z2 + j) ∧ Below e1.heap.size e1 wr2) (fun _ s9 _ => CN - (intOf s9 - z2).toNat)
          case atStart => exact ⟨0, Nat.zero_le _, by rw [HS0.out], by simp, HD1.out⟩
          case round =>
            obtain ⟨j, hj, rfl, rfl, hb⟩ := hrel
            have HD2 := Lib.hid hb
            clear hb
            obtain ⟨c0, x0, x1, x2, x3, x4, p0, p1, p2, p3⟩ := HPR.out _ HD2.out
            have x3' : wr.cell? ⟨xb, 2 + 1, none⟩ = some (.int .i64 z3) := x3
            have hcn := HCN.out
            by_cases hjx : ¬ j < CN
            · have hjm : ¬ z2 + (j : Int) ≤ min z3 (x : Int) := by omega
              have hjc : j = CN := by omega
              subst hjc
              clear hcn hjx
              rw [HSE.out]
              generalize hKB : ri3 R1 (x : Int) R2 = KB
              have hkk : (KB != KB) = false := by simp
              go_wp2_with fail
              refine (Has_25 _ _ _ _).mono ?_
              rintro e u ⟨rfl, hb⟩
              have HD3 := Lib.hid (HD2.out.trans (hb.mono HD2.out.size))
              rw [hKB]
              clear hb hKB
              go_wp2_with fail
              go_roundw
              case rel => exact ⟨x + 1, by omega, by go_num, HD3.out⟩
              case measure => simp [intOf]; omega
            · have hjm : z2 + (j : Int) ≤ min z3 (x : Int) := by omega
              have hjx : j < CN := by omega
              have hj2 : 0 ≤ z2 + (j : Int) ∧ z2 + (j : Int) ≤ 30 := by have := HN.out; omega
              clear hcn
              have hwj : IntKind.i64.wrap (z2 + (j : Int) + 1) = z2 + (j : Int) + 1 := IntWalk.i64_in _ ⟨by omega, by omega⟩
              have hwx : IntKind.i64.wrap ((x : Int) - (z2 + (j : Int))) = (x : Int) - (z2 + (j : Int)) := IntWalk.i64_in _ ⟨by omega, by omega⟩
              have x0' : wr.cell? ⟨xb, 0 + 0, none⟩ = some (.int .i64 z0) := x0
              go_wp2_with fail
              clear c0 x0 x1 x2 x3 x3' x4 p0 p1 p2 p3
              go_loopw [10, 11] (fun s10 s11 wr3 => ∃ i : Nat, i ≤ CQ ∧ s10 = .bool (AJ j i) ∧ s11 = .int .i64 (z0 + i) ∧ Below e1.heap.size e1 wr3) (fun _ s11 _ => CQ - (intOf s11 - z0).toNat)
              case atStart => exact ⟨0, Nat.zero_le _, by rw [HA0.out], by simp, HD2.out⟩
              case round =>
                obtain ⟨i, hi', rfl, rfl, hb⟩ := hrel
                have HD3 := Lib.hid hb
                clear hb
                obtain ⟨c0, x0, x1, x2, x3, x4, p0, p1, p2, p3⟩ := HPR.out _ HD3.out
                have x1' : wr.cell? ⟨xb, 0 + 1, none⟩ = some (.int .i64 z1) := x1
                have hcq := HCQ.out
                have hqq := HN.out.1
                by_cases hiq : ¬ i < CQ
                · have hiz : ¬ z0 + (i : Int) ≤ z1 := by omega
                  have hic : i = CQ := by omega
                  subst hic
                  clear hcq hqq hiq
                  have HSN := Lib.hid (HSS.out j)
                  generalize hV2 : AJ j i = V2
                  have HV2 := Lib.hid hV2
                  clear hV2
                  cases hV0 : SJ j
                  · have HV0 := Lib.hid hV0
                    clear hV0
                    go_wp2_with fail
                    go_roundw
                    case rel => exact ⟨j + 1, by omega, by rw [HSN.out, HV0.out, HV2.out]; rfl, by rw [show z2 + ((j + 1 : Nat) : Int) = z2 + j + 1 by omega], HD3.out⟩
                    case measure => simp [intOf]; omega
                  · have HV0 := Lib.hid hV0
                    clear hV0
                    go_wp2_with fail
                    go_roundw
                    case rel => exact ⟨j + 1, by omega, by rw [HSN.out, HV0.out]; rfl, by rw [show z2 + ((j + 1 : Nat) : Int) = z2 + j + 1 by omega], HD3.out⟩
                    case measure => simp [intOf]; omega
                · have hiz : z0 + (i : Int) ≤ z1 := by omega
                  have hiq : i < CQ := by omega
                  clear hcq
                  obtain ⟨nn, hnn⟩ : ∃ nn, nn = (x : Int) - (z2 + (j : Int)) + (z0 + (i : Int)) := ⟨_, rfl⟩
                  have hz60 : z1 ≤ 60 := by simpa using h60d
                  have hwn : IntKind.i64.wrap ((x : Int) - (z2 + (j : Int)) + (z0 + (i : Int))) = nn := by rw [hnn]; exact IntWalk.i64_in _ ⟨by omega, by omega⟩
                  have hwi : IntKind.i64.wrap (z0 + (i : Int) + 1) = z0 + (i : Int) + 1 := IntWalk.i64_in _ ⟨by omega, by omega⟩
                  have hai := HAS.out j i
                  rw [← hnn] at hai
                  have HAI := Lib.hid hai
                  clear hai hnn hz60 hqq
                  go_upto_region 25 with fail
                  cases hA : AJ j i
                  · have HA := Lib.hid hA
                    clear hA
                    go_quiet (fail)
                    go_wp2_with fail
                    go_roundw
                    case rel => exact ⟨i + 1, by omega, by rw [HAI.out, HA.out]; rfl, by rw [show z0 + ((i + 1 : Nat) : Int) = z0 + i + 1 by omega], below_quiet HD3.out ⟨_, rfl⟩⟩
                    case measure => simp [intOf]; omega
                  · have HA := Lib.hid hA
                    clear hA
                    by_cases hns : ¬ nn ≤ cp + z4
                    · have hnd : decide (nn ≤ cp + z4) = false := by simpa using hns
                      have HND := Lib.hid hnd
                      go_quiet (fail)
                      go_wp2_with fail
                      go_roundw
                      case rel => exact ⟨i + 1, by omega, by rw [HAI.out, HA.out, HND.out]; rfl, by rw [show z0 + ((i + 1 : Nat) : Int) = z0 + i + 1 by omega], below_quiet HD3.out ⟨_, rfl⟩⟩
                      case measure => simp [intOf]; omega
                    · have hns : nn ≤ cp + z4 := by omega
                      have hnd : decide (nn ≤ cp + z4) = true := by simpa using hns
                      have HND := Lib.hid hnd
                      obtain ⟨mn, hmn⟩ : ∃ mn, mn = min nn cp := ⟨_, rfl⟩
                      have HMN := Lib.hid hmn
                      have hmn' := hmn.symm
                      have HPX : Hid (∀ W, Below wr.heap.size wr W → (fun w' : World => w'.cell? ⟨w.heap.size, 0, none⟩ = some (.int .i64 cp) ∧ w'.cell? ⟨xb, 4, none⟩ = some (.int .i64 z4) ∧ w'.cell? ⟨b1, o1 + m * 2, none⟩ = some (.int .i64 S1) ∧ w'.cell? ⟨b1, o1 + m * 2 + 1, none⟩ = some (.int .i64 S2)) W) := Lib.hid fun W h => by
                        obtain ⟨c0, x0, x1, x2, x3, x4, p0, p1, p2, p3⟩ := HPR.out W (HD3.out.trans (h.mono HD3.out.size))
                        exact ⟨c0, x4, p2, p3⟩
                      clear hmn
                      refine wp_region_tail (fun _ => True) (fun w' => w'.cell? ⟨w.heap.size, 0, none⟩ = some (.int .i64 cp) ∧ w'.cell? ⟨xb, 4, none⟩ = some (.int .i64 z4) ∧ w'.cell? ⟨b1, o1 + m * 2, none⟩ = some (.int .i64 S1) ∧ w'.cell? ⟨b1, o1 + m * 2 + 1, none⟩ = some (.int .i64 S2)) 24 24 (by kernel_rfl) ⟨trivial, HPX.out _ (Below.refl _ _).drew⟩ (fun hHeld => ?_)
                      refine wpAnyT_takeB (i := 0) (v := .bool true) rfl (by kernel_rfl) (by kernel_rfl) (by kernel_rfl) (by kernel_rfl) (by kernel_rfl) (by decide) (by decide) (fun _ _ _ h => h) (Or.inl ⟨by kernel_rfl, ?_⟩) hHeld ?_
                      · intro w' hSw
                        obtain ⟨o0, o1, o2, o3⟩ := hSw
                        go_simp
                      refine wpAnyT_takeB (i := 1) (v := .bool true) rfl (by kernel_rfl) (by kernel_rfl) (by kernel_rfl) (by kernel_rfl) (by kernel_rfl) (by decide) (by decide) (fun _ _ _ h => h) (Or.inl ⟨by kernel_rfl, ?_⟩) hHeld ?_
                      · intro w' hSw
                        obtain ⟨o0, o1, o2, o3⟩ := hSw
                        go_simp
                      simp only [Act.put]
                      refine wpAnyT_takeB (i := 2) (v := .int .i64 nn) rfl (by kernel_rfl) (by kernel_rfl) (by kernel_rfl) (by kernel_rfl) (by kernel_rfl) (by decide) (by decide) (fun _ _ _ h => h) (Or.inl ⟨by kernel_rfl, ?_⟩) hHeld ?_
                      · intro w' hSw
                        obtain ⟨o0, o1, o2, o3⟩ := hSw
                        go_simp
                      refine wpAnyT_takeB (i := 3) (v := .pointer (some ⟨w.heap.size, 0, none⟩)) rfl (by kernel_rfl) (by kernel_rfl) (by kernel_rfl) (by kernel_rfl) (by kernel_rfl) (by decide) (by decide) (fun _ _ _ h => h) (Or.inl ⟨by kernel_rfl, ?_⟩) hHeld ?_
                      · intro w' hSw
                        obtain ⟨o0, o1, o2, o3⟩ := hSw
                        go_simp
                      simp only [Act.put]
                      refine wpAnyT_takeB (i := 4) (v := .pointer (some ⟨w.heap.size, 0, none⟩)) rfl (by kernel_rfl) (by kernel_rfl) (by kernel_rfl) (by kernel_rfl) (by kernel_rfl) (by decide) (by decide) (fun _ _ _ h => h) (Or.inl ⟨by kernel_rfl, ?_⟩) hHeld ?_
                      · intro w' hSw
                        obtain ⟨o0, o1, o2, o3⟩ := hSw
                        go_simp
                      refine wpAnyT_takeB (i := 5) (v := .int .i64 cp) rfl (by kernel_rfl) (by kernel_rfl) (by kernel_rfl) (by kernel_rfl) (by kernel_rfl) (by decide) (by decide) (fun _ _ _ h => h) (Or.inl ⟨by kernel_rfl, ?_⟩) hHeld ?_
                      · intro w' hSw
                        obtain ⟨o0, o1, o2, o3⟩ := hSw
                        go_simp
                      simp only [Act.put]
                      refine wpAnyT_takeB (i := 6) (v := .pointer (some ⟨xb, 4, none⟩)) rfl (by kernel_rfl) (by kernel_rfl) (by kernel_rfl) (by kernel_rfl) (by kernel_rfl) (by decide) (by decide) (fun _ _ _ h => h) (Or.inl ⟨by kernel_rfl, ?_⟩) hHeld ?_
                      · intro w' hSw
                        obtain ⟨o0, o1, o2, o3⟩ := hSw
                        go_simp
                      refine wpAnyT_takeB (i := 7) (v := .int .i64 z4) rfl (by kernel_rfl) (by kernel_rfl) (by kernel_rfl) (by kernel_rfl) (by kernel_rfl) (by decide) (by decide) (fun _ _ _ h => h) (Or.inl ⟨by kernel_rfl, ?_⟩) hHeld ?_
                      · intro w' hSw
                        obtain ⟨o0, o1, o2, o3⟩ := hSw
                        go_simp
                      simp only [Act.put]
                      refine wpAnyT_takeB (i := 8) (v := .int .i64 (cp + z4)) rfl (by kernel_rfl) (by kernel_rfl) (by kernel_rfl) (by kernel_rfl) (by kernel_rfl) (by decide) (by decide) (fun _ _ _ h => h) (Or.inl ⟨by kernel_rfl, ?_⟩) hHeld ?_
                      · intro w' hSw
                        obtain ⟨o0, o1, o2, o3⟩ := hSw
                        go_simp
                      refine wpAnyT_takeB (i := 9) (v := .bool true) rfl (by kernel_rfl) (by kernel_rfl) (by kernel_rfl) (by kernel_rfl) (by kernel_rfl) (by decide) (by decide) (fun _ _ _ h => h) (Or.inl ⟨by kernel_rfl, ?_⟩) hHeld ?_
                      · intro w' hSw
                        obtain ⟨o0, o1, o2, o3⟩ := hSw
                        go_simp
                      simp only [Act.put]
                      refine wpAnyT_takeB (i := 10) (v := .bool true) rfl (by kernel_rfl) (by kernel_rfl) (by kernel_rfl) (by kernel_rfl) (by kernel_rfl) (by decide) (by decide) (fun _ _ _ h => h) (Or.inl ⟨by kernel_rfl, ?_⟩) hHeld ?_
                      · intro w' hSw
                        obtain ⟨o0, o1, o2, o3⟩ := hSw
                        go_simp
                      refine wpAnyT_takeB (i := 11) (v := .bool true) rfl (by kernel_rfl) (by kernel_rfl) (by kernel_rfl) (by kernel_rfl) (by kernel_rfl) (by decide) (by decide) (fun _ _ _ h => h) (Or.inl ⟨by kernel_rfl, ?_⟩) hHeld ?_
                      · intro w' hSw
                        obtain ⟨o0, o1, o2, o3⟩ := hSw
                        go_simp
                      simp only [Act.put]
                      refine wpAnyT_takeB (i := 12) (v := .slice (some ⟨b1, o1, none⟩) (n + 1) (n + 1)) rfl (by kernel_rfl) (by kernel_rfl) (by kernel_rfl) (by kernel_rfl) (by kernel_rfl) (by decide) (by decide) (fun _ _ _ h => h) (Or.inl ⟨by kernel_rfl, ?_⟩) hHeld ?_
                      · intro w' hSw
                        obtain ⟨o0, o1, o2, o3⟩ := hSw
                        go_simp
                      refine wpAnyT_takeB (i := 13) (v := .int .i64 k) rfl (by kernel_rfl) (by kernel_rfl) (by kernel_rfl) (by kernel_rfl) (by kernel_rfl) (by decide) (by decide) (fun _ _ _ h => h) (Or.inl ⟨by kernel_rfl, ?_⟩) hHeld ?_
                      · intro w' hSw
                        obtain ⟨o0, o1, o2, o3⟩ := hSw
                        go_simp
                      simp only [Act.put]
                      refine wpAnyT_takeB (i := 14) (v := .int .i64 m) rfl (by kernel_rfl) (by kernel_rfl) (by kernel_rfl) (by kernel_rfl) (by kernel_rfl) (by decide) (by decide) (fun _ _ _ h => h) (Or.inl ⟨by kernel_rfl, ?_⟩) hHeld ?_
                      · intro w' hSw
                        obtain ⟨o0, o1, o2, o3⟩ := hSw
                        go_simp
                      refine wpAnyT_takeB (i := 15) (v := .pointer (some ⟨b1, o1 + m * 2, none⟩)) rfl (by kernel_rfl) (by kernel_rfl) (by kernel_rfl) (by kernel_rfl) (by kernel_rfl) (by decide) (by decide) (fun _ _ _ h => h) (Or.inl ⟨by kernel_rfl, ?_⟩) hHeld ?_
                      · intro w' hSw
                        obtain ⟨o0, o1, o2, o3⟩ := hSw
                        go_simp
                      simp only [Act.put]
                      refine wpAnyT_takeB (i := 16) (v := .agg #[.int .i64 S1, .int .i64 S2]) rfl (by kernel_rfl) (by kernel_rfl) (by kernel_rfl) (by kernel_rfl) (by kernel_rfl) (by decide) (by decide) (fun _ _ _ h => h) (Or.inl ⟨by kernel_rfl, ?_⟩) hHeld ?_
                      · intro w' hSw
                        obtain ⟨o0, o1, o2, o3⟩ := hSw
                        go_simp
                      refine wpAnyT_takeB (i := 17) (v := .int .i64 nn) rfl (by kernel_rfl) (by kernel_rfl) (by kernel_rfl) (by kernel_rfl) (by kernel_rfl) (by decide) (by decide) (fun _ _ _ h => h) (Or.inl ⟨by kernel_rfl, ?_⟩) hHeld ?_
                      · intro w' hSw
                        obtain ⟨o0, o1, o2, o3⟩ := hSw
                        go_simp
                      simp only [Act.put]
                      refine wpAnyT_takeB (i := 18) (v := .pointer (some ⟨w.heap.size, 0, none⟩)) rfl (by kernel_rfl) (by kernel_rfl) (by kernel_rfl) (by kernel_rfl) (by kernel_rfl) (by decide) (by decide) (fun _ _ _ h => h) (Or.inl ⟨by kernel_rfl, ?_⟩) hHeld ?_
                      · intro w' hSw
                        obtain ⟨o0, o1, o2, o3⟩ := hSw
                        go_simp
                      refine wpAnyT_takeB (i := 19) (v := .pointer (some ⟨w.heap.size, 0, none⟩)) rfl (by kernel_rfl) (by kernel_rfl) (by kernel_rfl) (by kernel_rfl) (by kernel_rfl) (by decide) (by decide) (fun _ _ _ h => h) (Or.inl ⟨by kernel_rfl, ?_⟩) hHeld ?_
                      · intro w' hSw
                        obtain ⟨o0, o1, o2, o3⟩ := hSw
                        go_simp
                      simp only [Act.put]
                      refine wpAnyT_takeB (i := 20) (v := .int .i64 cp) rfl (by kernel_rfl) (by kernel_rfl) (by kernel_rfl) (by kernel_rfl) (by kernel_rfl) (by decide) (by decide) (fun _ _ _ h => h) (Or.inl ⟨by kernel_rfl, ?_⟩) hHeld ?_
                      · intro w' hSw
                        obtain ⟨o0, o1, o2, o3⟩ := hSw
                        go_simp
                      refine wpAnyT_takeB (i := 21) (v := .int .i64 mn) rfl (by kernel_rfl) (by kernel_rfl) (by kernel_rfl) (by kernel_rfl) (by kernel_rfl) (by decide) (by decide) (fun _ _ _ h => h) (Or.inl ⟨by kernel_rfl, ?_⟩) hHeld ?_
                      · intro w' hSw
                        obtain ⟨o0, o1, o2, o3⟩ := hSw
                        go_simp
                      simp only [Act.put]
                      refine wpAnyT_one (T := fun w' => w'.cell? ⟨w.heap.size, 0, none⟩ = some (.int .i64 cp) ∧ w'.cell? ⟨xb, 4, none⟩ = some (.int .i64 z4) ∧ w'.cell? ⟨b1, o1 + m * 2, none⟩ = some (.int .i64 S1) ∧ w'.cell? ⟨b1, o1 + m * 2 + 1, none⟩ = some (.int .i64 S2)) (i := 22) (by kernel_rfl) rfl (fun _ h => ⟨fun _ => trivial, fun _ => h⟩) (fun K hK => ?_)
                      go_simp
                      go_at_call 25
                      refine (Has_25 _ _ _ _).mono ?_
                      rintro e d1 ⟨rfl, hd1⟩
                      have HD4 : Below wr.heap.size wr d1 := (Below.refl wr.heap.size wr).drew.trans hd1
                      refine hK.out _ _ (HPX.out _ HD4) (fun hH => ?_)
                      have hHeld := And.intro trivial hH
                      clear hK K
                      refine wpAnyT_takeB (i := 23) (v := .bool (ri3 S1 mn S2)) rfl (by kernel_rfl) (by kernel_rfl) (by kernel_rfl) (by kernel_rfl) (by kernel_rfl) (by decide) (by decide) (fun _ _ _ h => h) (Or.inl ⟨by kernel_rfl, ?_⟩) hHeld ?_
                      · intro w' hSw
                        obtain ⟨o0, o1, o2, o3⟩ := hSw
                        go_simp
                      simp only [Act.put]
                      refine wpAnyT_one (T := fun _ => True) (i := 24) (by kernel_rfl) rfl (Ob.last (by kernel_rfl) (by kernel_rfl)) (fun K hK => ?_)
                      go_simp
                      refine hK.out _ _ trivial (fun _ => ?_)
                      clear hK K
                      refine wpAnyT_done (by kernel_rfl) ?_
                      go_wp2_with fail
                      go_roundw
                      case rel => exact ⟨i + 1, by omega, by rw [HAI.out, HA.out, HND.out, ← HMN.out]; rfl, by rw [show z0 + ((i + 1 : Nat) : Int) = z0 + i + 1 by omega], HD3.out.trans (HD4.mono HD3.out.size)⟩
                      case measure => simp [intOf]; omega
end Go.Proofs.Ytnmocdfogdcliaa
