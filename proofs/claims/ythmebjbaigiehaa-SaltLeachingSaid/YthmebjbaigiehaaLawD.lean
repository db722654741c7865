/- Contract of the law SaltShares: it returns true for every input. -/
import Derived.Test.YthmebjbaigiehaaLawB
import Derived.Test.YthmebjbaigiehaaPlain
import Derived.Test.YthmebjbaigiehaaNear
namespace Go.Proofs.Ythmebjbaigiehaa
open Go.RowKit

theorem mul_range {a b A B : Int} (h1 : 0 ≤ a) (h2 : a ≤ A) (h3 : 0 ≤ b) (h4 : b ≤ B) : 0 ≤ a * b ∧ a * b ≤ A * B :=
  ⟨Int.mul_nonneg h1 h3, Int.mul_le_mul h2 h4 h3 (by omega)⟩
set_option maxRecDepth 100000 in
set_option maxHeartbeats 4000000 in
theorem shares_7 (L S ev se H D : Int) (A : Option Addr) (n c B : Nat) (P : Nat → Int) (w : World) (hm : n ≤ 9223372036854775807) (hB : B ≤ w.heap.size) (hr : Rd w B A n fun k => .int .i64 (P k)) :
    Calls Try.prog 7 #[.agg #[.int .i64 L, .int .i64 S], .slice A n c, .int .i64 ev, .int .i64 se, .agg #[.int .i64 H, .int .i64 D]] w fun e w' => e = .returned (.bool true) ∧ Below w.heap.size w w' := by
  have HR := Lib.hid hr
  clear hr
  obtain ⟨E, hE⟩ : ∃ E, E = splE L S n P := ⟨_, rfl⟩
  obtain ⟨m, hmm⟩ : ∃ m, m = if E = 0 then n else 0 := ⟨_, rfl⟩
  obtain ⟨Y, hY⟩ : ∃ Y, Y = splS L S P := ⟨_, rfl⟩
  have HX := Lib.hid (splC_16 L S A n c B P hm)
  have HY : Hid (∀ k, k < m → 0 ≤ P k ∧ P k ≤ 1073741824 ∧ 0 ≤ Y k ∧ Y k ≤ S ∧ (0 < L → P k ≤ L) ∧ (0 < L → -L < Y k * L - S * P k ∧ Y k * L - S * P k < L) ∧ (L = 0 → Y k = 0)) := Lib.hid fun k hk => by
    by_cases h : E = 0
    · rw [hmm, if_pos h] at hk
      rw [hE] at h
      rw [hY]
      have h1 := splS_at h hk
      have h2 := (splE_zero h).2.2.1 k hk
      exact ⟨h2.1, h2.2, h1.1, h1.2.1, fun hL => (split_near h hk hL).1, fun hL => (split_near h hk hL).2, fun hL => if_neg (by omega)⟩
    · rw [hmm, if_neg h] at hk; omega
  rw [← hE, ← hmm, ← hY] at HX
  have HM := Lib.hid hmm
  have hm2 : m ≤ 9223372036854775807 := by rw [hmm]; split <;> omega
  clear hE hmm hY
  have HZ := Lib.hid (fun W => Lose_14 L S ev se W)
  have HL := Lib.hid (fun W => Leach_19 H D L S W)
  unfold prE at HZ HL
  have HF : Hid (losE L S ev se = 0 → orZ (losE L S ev se) se = se ∧ (0 ≤ ev ∧ ev ≤ L) ∧ (0 ≤ se ∧ se ≤ L - ev) ∧ (0 ≤ orZ (losE L S ev se) (losG L S ev se) ∧ orZ (losE L S ev se) (losG L S ev se) ≤ S) ∧
      (0 < L - ev → orZ (losE L S ev se) (losG L S ev se) * (L - ev) ≤ S * se ∧ S * se < orZ (losE L S ev se) (losG L S ev se) * (L - ev) + (L - ev))) := Lib.hid fun h => by
    obtain ⟨z1, z2, z3, _⟩ := losE_zero h
    have z6 := losG_range h
    simp only [orZ, h, if_true]
    exact ⟨trivial, z2, z3, z6, losG_near⟩
  have HG : Hid (lchE H D L S = 0 → orZ (lchE H D L S) L = L ∧ (1 ≤ H ∧ H + L ≤ 1073741824) ∧ (0 ≤ D ∧ 0 ≤ S ∧ D + S ≤ 1073741824) ∧ (0 ≤ orZ (lchE H D L S) (lchD H D L S) ∧ orZ (lchE H D L S) (lchD H D L S) ≤ D + S) ∧ orZ (lchE H D L S) (lchD H D L S) * (H + L) ≤ (D + S) * L ∧ (D + S) * L < orZ (lchE H D L S) (lchD H D L S) * (H + L) + (H + L)) := Lib.hid fun h => by
    obtain ⟨z1, z2, z3, z4⟩ := lchE_zero h
    obtain ⟨z5, z6, _⟩ := rt_iff.1 z3
    have z7 := lch_facts h
    simp only [orZ, h, if_true]
    have : lchD H D L S ≤ D + S := by have := z7.2.1; unfold lchA at this; omega
    exact ⟨trivial, by omega, by omega, ⟨z7.1, this⟩, z7.2.2⟩
  generalize orZ (losE L S ev se) (L - ev - se) = l1 at HZ HF
  generalize orZ (losE L S ev se) (S - losG L S ev se) = l2 at HZ HF
  generalize orZ (losE L S ev se) (losG L S ev se) = g2 at HZ HF
  generalize orZ (losE L S ev se) se = g1 at HZ HF
  generalize losE L S ev se = F at HZ HF
  generalize orZ (lchE H D L S) (lchA H D L S) = a2 at HL HG
  generalize orZ (lchE H D L S) (lchD H D L S) = d2 at HL HG
  generalize orZ (lchE H D L S) H = a1 at HL HG
  generalize orZ (lchE H D L S) L = d1 at HL HG
  generalize lchE H D L S = G at HL HG
  go_enter Try.func7, Try.ntmps7
  go_wp2_with fail
  obtain ⟨u0, hbx⟩ : ∃ zz, zz = (w.alloc (.cells #[.int .i64 L, .int .i64 S] 24)).alloc (.cells #[.int .i64 H, .int .i64 D] 38) := ⟨_, rfl⟩
  have NW : Blk u0 (w.heap.size) 24 #[.int .i64 L, .int .i64 S] := hbx ▸ ((Blk.new' rfl) |>.alloc _)
  have NF : Blk u0 (w.heap.size + 1) 38 #[.int .i64 H, .int .i64 D] := hbx ▸ ((Blk.new' (by simp)))
  have hb : Below w.heap.size w u0 := by rw [hbx]; (repeat (first | exact Below.refl _ _ | exact below_alloc _ _ | refine Below.alloc ?_ (by simp; omega) _ | refine Below.alloc ?_ (by simp) _))
  rw [← hbx]
  clear hbx
  have B1 := Lib.hid (show Below w.heap.size w u0 from hb)
  have hz1 := B1.out.size
  clear hb 
  have W1 := Lib.hid NW
  clear NW
  have hsW1 := W1.out.lt
  have F1 := Lib.hid NF
  clear NF
  have hsF1 := F1.out.lt
  refine (sane_11 _).mono ?_
  rintro e v0 ⟨rfl, hb⟩
  have B2 := Lib.hid (B1.out.trans (hb.mono B1.out.size))
  have W2 := Lib.hid (W1.out.below hb W1.out.lt)
  have F2 := Lib.hid (F1.out.below hb F1.out.lt)
  have hz2 := B2.out.size
  clear hb B1 W1 F1 hz1
  have hsW2 := W2.out.lt
  have hsF2 := F2.out.lt
  clear hsW1 hsF1
  have cW0 : v0.cell? ⟨w.heap.size, 0, none⟩ = some (.int .i64 L) := W2.out.cell 0
  have cW1 : v0.cell? ⟨w.heap.size, 1, none⟩ = some (.int .i64 S) := W2.out.cell 1
  go_wp2_with fail
  refine (Right_23 _ _ _).mono ?_
  rintro e vr ⟨rfl, hb⟩
  clear cW0 cW1
  have B3 := Lib.hid (B2.out.trans (hb.mono B2.out.size))
  have W3 := Lib.hid (W2.out.below hb W2.out.lt)
  have F3 := Lib.hid (F2.out.below hb F2.out.lt)
  have hz3 := B3.out.size
  clear hb B2 W2 F2 hz2
  have hsW3 := W3.out.lt
  have hsF3 := F3.out.lt
  clear hsW2 hsF2
  cases hrt : rt L S
  · go_wp2_with fail
    go_ret
    exact ⟨rfl, B3.out⟩
  have HRT := Lib.hid (rt_iff.1 hrt)
  clear hrt
  have cW0 : vr.cell? ⟨w.heap.size, 0, none⟩ = some (.int .i64 L) := W3.out.cell 0
  have cW1 : vr.cell? ⟨w.heap.size, 1, none⟩ = some (.int .i64 S) := W3.out.cell 1
  go_wp2_with fail
  refine (HX.out _ (HR.out.below (B3.out.mono hB)) (by omega)).mono ?_
  rintro e v1 ⟨⟨A1, c1, rfl, hr1⟩, hb⟩
  clear cW0 cW1
  have B4 := Lib.hid (B3.out.trans (hb.mono B3.out.size))
  have W4 := Lib.hid (W3.out.below hb W3.out.lt)
  have F4 := Lib.hid (F3.out.below hb F3.out.lt)
  have hz4 := B4.out.size
  clear hb B3 W3 F3 hz3
  have hsW4 := W4.out.lt
  have hsF4 := F4.out.lt
  clear hsW3 hsF3
  have K4 := Lib.hid hr1
  clear hr1
  have cW0 : v1.cell? ⟨w.heap.size, 0, none⟩ = some (.int .i64 L) := W4.out.cell 0
  have cW1 : v1.cell? ⟨w.heap.size, 1, none⟩ = some (.int .i64 S) := W4.out.cell 1
  go_wp2_with fail
  clear cW0 cW1
  go_loopw [37] (fun i wr => ∃ k : Nat, k ≤ m ∧ i = .int .i64 k ∧ Below v1.heap.size v1 wr) (fun i _ => m - (intOf i).toNat)
  case atStart => exact ⟨0, Nat.zero_le _, rfl, Below.refl _ _⟩
  case round =>
    obtain ⟨k, hk, rfl, hb⟩ := hrel
    have B5 := Lib.hid (B4.out.trans (hb.mono B4.out.size))
    have C5 := Lib.hid (show Below v1.heap.size v1 wr from hb)
    have W5 := Lib.hid (W4.out.below hb W4.out.lt)
    have F5 := Lib.hid (F4.out.below hb F4.out.lt)
    have K5 := Lib.hid (rd_step K4.out hb)
    have hz5 := B5.out.size
    clear hb B4 W4 F4 K4 hz4
    have hsW5 := W5.out.lt
    have hsF5 := F5.out.lt
    clear hsW4 hsF4
    by_cases hlt : k < m
    · have hlt' : (k : Int) < m := by omega
      obtain ⟨b, off, rfl, hbB, ca, cb⟩ := RdP.at_ K5.out hlt
      go_upto_region 9 with fail
      clear ca cb
      obtain ⟨wx, hbx⟩ : ∃ zz, zz = wr.alloc (.cells #[.int .i64 (P k), .int .i64 (Y k)] 24) := ⟨_, rfl⟩
      have NZ : Blk wx (wr.heap.size) 24 #[.int .i64 (P k), .int .i64 (Y k)] := hbx ▸ ((Blk.new' rfl))
      have hb : Below wr.heap.size wr wx := by rw [hbx]; (repeat (first | exact Below.refl _ _ | exact below_alloc _ _ | refine Below.alloc ?_ (by simp; omega) _ | refine Below.alloc ?_ (by simp) _))
      rw [← hbx]
      clear hbx
      have B6 := Lib.hid (B5.out.trans (hb.mono B5.out.size))
      have C6 := Lib.hid (C5.out.trans (hb.mono C5.out.size))
      have W6 := Lib.hid (W5.out.below hb W5.out.lt)
      have F6 := Lib.hid (F5.out.below hb F5.out.lt)
      have K6 := Lib.hid (rd_step K5.out hb)
      have hz6 := B6.out.size
      clear hb B5 C5 W5 F5 K5 hz5
      have hsW6 := W6.out.lt
      have hsF6 := F6.out.lt
      clear hsW5 hsF5
      have Z6 := Lib.hid NZ
      clear NZ
      have hsZ6 := Z6.out.lt
      have cW0 : wx.cell? ⟨w.heap.size, 0, none⟩ = some (.int .i64 L) := W6.out.cell 0
      have cW1 : wx.cell? ⟨w.heap.size, 1, none⟩ = some (.int .i64 S) := W6.out.cell 1
      have cZ0 : wx.cell? ⟨wr.heap.size, 0, none⟩ = some (.int .i64 (P k)) := Z6.out.cell 0
      have cZ1 : wx.cell? ⟨wr.heap.size, 1, none⟩ = some (.int .i64 (Y k)) := Z6.out.cell 1
      obtain ⟨⟨l0, l1⟩, ⟨s0, s1⟩, ls⟩ := HRT.out
      obtain ⟨p0, p1, y0, y1, pl, hpos, hzero⟩ := HY.out k hlt
      by_cases hL : 0 < L
      · obtain ⟨n1, n2⟩ := hpos hL
        have HNE : Hid (∀ q, Calls Try.prog 24 #[.int .i64 (Y k), .int .i64 S, .int .i64 (P k), .int .i64 L] (wx.drewN q) fun e w' => e = .returned (.bool true) ∧ wx.drewN q = w') := Lib.hid fun q => near_24 _ _ _ _ _ (by have := mul_range y0 (Int.le_trans y1 s1) l0 l1; omega) (by have := mul_range s0 s1 p0 p1; omega) ⟨hL, by omega⟩ ⟨n1, n2⟩
        clear n1 n2 hpos hzero
        have hL0 : (L == 0) = false := by simp; omega
        have hpl : decide (L < P k) = false := by have := pl hL; simp; omega
        go_wp2_with fail
        refine (HNE.out 0).mono ?_
        rintro e wa ⟨rfl, rfl⟩
        go_wp2_with fail
        exact ⟨⟨k + 1, by omega, by go_num, C6.out⟩, by simp [intOf]; omega⟩
      · obtain rfl : L = 0 := by omega
        have hy := hzero rfl
        have hY0 : (Y k != 0) = false := by simp [hy]
        go_wp2_with fail
        exact ⟨⟨k + 1, by omega, by go_num, C6.out⟩, by simp [intOf]; omega⟩
    · obtain rfl : k = m := by omega
      go_upto_region 12 with fail
      go_cut [80] (fun s80 wc => s80 = .bool false ∧ wc = wr)
      case first =>
        by_cases h0 : E = 0
        · subst h0
          go_wp2_with fail
          go_meet
          case rel => exact ⟨rfl, rfl⟩
        · obtain rfl : k = 0 := by rw [HM.out, if_neg h0]
          have hE0 : (E != 0) = true := by simpa using h0
          go_wp2_with fail
          go_meet
          case rel => exact ⟨rfl, rfl⟩
      case rest =>
        obtain ⟨rfl, rfl⟩ := hcut
        clear HX HY
        clear K5
        clear C5
        have cW0 : wc.cell? ⟨w.heap.size, 0, none⟩ = some (.int .i64 L) := W5.out.cell 0
        have cW1 : wc.cell? ⟨w.heap.size, 1, none⟩ = some (.int .i64 S) := W5.out.cell 1
        go_wp2_with fail
        refine (HZ.out _).mono ?_
        rintro e v4 ⟨rfl, hb⟩
        clear cW0 cW1
        have B6 := Lib.hid (B5.out.trans (hb.mono B5.out.size))
        have W6 := Lib.hid (W5.out.below hb W5.out.lt)
        have F6 := Lib.hid (F5.out.below hb F5.out.lt)
        have hz6 := B6.out.size
        clear hb B5 W5 F5 hz5
        have hsW6 := W6.out.lt
        have hsF6 := F6.out.lt
        clear hsW5 hsF5
        go_upto_region 15 with fail
        obtain ⟨u4, hbx⟩ : ∃ zz, zz = (v4.alloc (.cells #[.int .i64 l1, .int .i64 l2] 24)).alloc (.cells #[.int .i64 g1, .int .i64 g2] 24) := ⟨_, rfl⟩
        have NX : Blk u4 (v4.heap.size) 24 #[.int .i64 l1, .int .i64 l2] := hbx ▸ ((Blk.new' rfl) |>.alloc _)
        have NZ : Blk u4 (v4.heap.size + 1) 24 #[.int .i64 g1, .int .i64 g2] := hbx ▸ ((Blk.new' (by simp)))
        have hb : Below v4.heap.size v4 u4 := by rw [hbx]; (repeat (first | exact Below.refl _ _ | exact below_alloc _ _ | refine Below.alloc ?_ (by simp; omega) _ | refine Below.alloc ?_ (by simp) _))
        rw [← hbx]
        clear hbx
        have B7 := Lib.hid (B6.out.trans (hb.mono B6.out.size))
        have W7 := Lib.hid (W6.out.below hb W6.out.lt)
        have F7 := Lib.hid (F6.out.below hb F6.out.lt)
        have hz7 := B7.out.size
        clear hb B6 W6 F6 hz6
        have hsW7 := W7.out.lt
        have hsF7 := F7.out.lt
        clear hsW6 hsF6
        have X7 := Lib.hid NX
        clear NX
        have hsX7 := X7.out.lt
        have Z7 := Lib.hid NZ
        clear NZ
        have hsZ7 := Z7.out.lt
        have cW0 : u4.cell? ⟨w.heap.size, 0, none⟩ = some (.int .i64 L) := W7.out.cell 0
        have cW1 : u4.cell? ⟨w.heap.size, 1, none⟩ = some (.int .i64 S) := W7.out.cell 1
        have cF0 : u4.cell? ⟨w.heap.size + 1, 0, none⟩ = some (.int .i64 H) := F7.out.cell 0
        have cF1 : u4.cell? ⟨w.heap.size + 1, 1, none⟩ = some (.int .i64 D) := F7.out.cell 1
        have cX0 : u4.cell? ⟨v4.heap.size, 0, none⟩ = some (.int .i64 l1) := X7.out.cell 0
        have cX1 : u4.cell? ⟨v4.heap.size, 1, none⟩ = some (.int .i64 l2) := X7.out.cell 1
        have cZ0 : u4.cell? ⟨v4.heap.size + 1, 0, none⟩ = some (.int .i64 g1) := Z7.out.cell 0
        have cZ1 : u4.cell? ⟨v4.heap.size + 1, 1, none⟩ = some (.int .i64 g2) := Z7.out.cell 1
        go_cut [96] (fun s96 wd => s96 = .bool (decide (F = 0 ∧ ev < L)) ∧ wd = u4)
        case first =>
          by_cases hF : F = 0
          · subst hF
            go_wp2_with fail
            go_meet
            case rel => exact ⟨by simp, rfl⟩
          · have hF1 : (F == 0) = false := by simpa using hF
            go_wp2_with fail
            go_meet
            case rel => exact ⟨by simp [hF], rfl⟩
        case rest =>
          clear cW0 cW1 cF0 cF1 cX0 cX1 cZ0 cZ1
          obtain ⟨rfl, rfl⟩ := hcut
          go_upto_if 96 with fail
          go_cut [] (fun we => we = wc)
          case first =>
            by_cases hc : F = 0 ∧ ev < L
            · have hd : decide (F = 0 ∧ ev < L) = true := by simp [hc]
              rw [hd]
              clear hd
              obtain ⟨hF, hev⟩ := hc
              obtain ⟨rfl, ⟨e1, e2⟩, ⟨e3, e4⟩, ⟨e5, e6⟩, e7⟩ := HF.out hF
              subst hF
              obtain ⟨e8, e9⟩ := e7 (by omega)
              obtain ⟨⟨l0, lM⟩, ⟨s0, sM⟩, ls⟩ := HRT.out
              obtain ⟨N, hN⟩ : ∃ N, N = L - ev := ⟨_, rfl⟩
              rw [← hN] at e4 e8 e9
              have hwN : IntKind.i64.wrap (L - ev) = N := hN ▸ IntWalk.i64_in _ ⟨by omega, by omega⟩
              have n0 : 0 < N := by omega
              have n1 : N ≤ 1073741824 := by omega
              clear hN e7
              have m1 := mul_range (A := 1073741824) (B := 1073741824) e5 (by omega) (show 0 ≤ N by omega) n1
              have m2 := mul_range (A := 1073741824) (B := 1073741824) s0 sM e3 (by omega)
              have hwa : IntKind.i64.wrap (g2 * N) = g2 * N := IntWalk.i64_in _ ⟨by omega, by omega⟩
              have hwb : IntKind.i64.wrap (S * g1) = S * g1 := IntWalk.i64_in _ ⟨by omega, by omega⟩
              have hda : decide (S * g1 < g2 * N) = false := by simp; omega
              have hdb : decide (N < g1) = false := by simp; omega
              have HNE : Hid (∀ W, Calls Try.prog 24 #[.int .i64 g2, .int .i64 S, .int .i64 g1, .int .i64 N] W fun e w' => e = .returned (.bool true) ∧ W = w') := Lib.hid fun W => near_24 _ _ _ _ _ (by omega) (by omega) (by omega) (by omega)
              clear e8 e9 m1 m2 HF
              have cW0 : wc.cell? ⟨w.heap.size, 0, none⟩ = some (.int .i64 L) := W7.out.cell 0
              have cW1 : wc.cell? ⟨w.heap.size, 1, none⟩ = some (.int .i64 S) := W7.out.cell 1
              have cF0 : wc.cell? ⟨w.heap.size + 1, 0, none⟩ = some (.int .i64 H) := F7.out.cell 0
              have cF1 : wc.cell? ⟨w.heap.size + 1, 1, none⟩ = some (.int .i64 D) := F7.out.cell 1
              have cX0 : wc.cell? ⟨v4.heap.size, 0, none⟩ = some (.int .i64 l1) := X7.out.cell 0
              have cX1 : wc.cell? ⟨v4.heap.size, 1, none⟩ = some (.int .i64 l2) := X7.out.cell 1
              have cZ0 : wc.cell? ⟨v4.heap.size + 1, 0, none⟩ = some (.int .i64 g1) := Z7.out.cell 0
              have cZ1 : wc.cell? ⟨v4.heap.size + 1, 1, none⟩ = some (.int .i64 g2) := Z7.out.cell 1
              go_wp2_with fail
              refine (HNE.out _).mono ?_
              rintro e wa ⟨rfl, rfl⟩
              go_wp2_with fail
              go_meet
              case rel => exact rfl
            · have hd : decide (F = 0 ∧ ev < L) = false := by simpa using hc
              rw [hd]
              go_wp2_with fail
              go_meet
              case rel => exact rfl
          case rest =>
            subst hcut
            have cW0 : wc.cell? ⟨w.heap.size, 0, none⟩ = some (.int .i64 L) := W7.out.cell 0
            have cW1 : wc.cell? ⟨w.heap.size, 1, none⟩ = some (.int .i64 S) := W7.out.cell 1
            have cF0 : wc.cell? ⟨w.heap.size + 1, 0, none⟩ = some (.int .i64 H) := F7.out.cell 0
            have cF1 : wc.cell? ⟨w.heap.size + 1, 1, none⟩ = some (.int .i64 D) := F7.out.cell 1
            go_wp2_with fail
            refine (HL.out _).mono ?_
            rintro e v5 ⟨rfl, hb⟩
            clear cW0 cW1 cF0 cF1
            have B8 := Lib.hid (B7.out.trans (hb.mono B7.out.size))
            have W8 := Lib.hid (W7.out.below hb W7.out.lt)
            have F8 := Lib.hid (F7.out.below hb F7.out.lt)
            have X8 := Lib.hid (X7.out.below hb X7.out.lt)
            have Z8 := Lib.hid (Z7.out.below hb Z7.out.lt)
            have hz8 := B8.out.size
            clear hb B7 W7 F7 X7 Z7 hz7
            have hsW8 := W8.out.lt
            have hsF8 := F8.out.lt
            have hsX8 := X8.out.lt
            have hsZ8 := Z8.out.lt
            clear hsW7 hsF7 hsX7 hsZ7
            clear X8 hsX8 Z8 hsZ8
            go_upto_region 20 with fail
            obtain ⟨u5, hbx⟩ : ∃ zz, zz = (v5.alloc (.cells #[.int .i64 a1, .int .i64 a2] 38)).alloc (.cells #[.int .i64 d1, .int .i64 d2] 24) := ⟨_, rfl⟩
            have NM : Blk u5 (v5.heap.size) 38 #[.int .i64 a1, .int .i64 a2] := hbx ▸ ((Blk.new' rfl) |>.alloc _)
            have NO : Blk u5 (v5.heap.size + 1) 24 #[.int .i64 d1, .int .i64 d2] := hbx ▸ ((Blk.new' (by simp)))
            have hb : Below v5.heap.size v5 u5 := by rw [hbx]; (repeat (first | exact Below.refl _ _ | exact below_alloc _ _ | refine Below.alloc ?_ (by simp; omega) _ | refine Below.alloc ?_ (by simp) _))
            rw [← hbx]
            clear hbx
            have B9 := Lib.hid (B8.out.trans (hb.mono B8.out.size))
            have W9 := Lib.hid (W8.out.below hb W8.out.lt)
            have F9 := Lib.hid (F8.out.below hb F8.out.lt)
            have hz9 := B9.out.size
            clear hb B8 W8 F8 hz8
            have hsW9 := W9.out.lt
            have hsF9 := F9.out.lt
            clear hsW8 hsF8
            have M9 := Lib.hid NM
            clear NM
            have hsM9 := M9.out.lt
            have O9 := Lib.hid NO
            clear NO
            have hsO9 := O9.out.lt
            by_cases hG : G = 0
            · obtain ⟨e0, ⟨e1, e2⟩, ⟨e3, e4, e5⟩, ⟨e6, e7⟩, e8, e9⟩ := HG.out hG
              have e0 := e0.symm
              subst e0
              subst hG
              obtain ⟨⟨l0, lM⟩, ⟨s0, sM⟩, ls⟩ := HRT.out
              have hw3 : IntKind.i64.wrap (H + L) = H + L := IntWalk.i64_in _ ⟨by omega, by omega⟩
              have hw4 : IntKind.i64.wrap (D + S) = D + S := IntWalk.i64_in _ ⟨by omega, by omega⟩
              have m1 := mul_range (A := 1073741824) (B := 1073741824) e6 (by omega) (show 0 ≤ H + L by omega) e2
              have m2 := mul_range (A := 1073741824) (B := 1073741824) (show 0 ≤ D + S by omega) e5 l0 lM
              have hwa : IntKind.i64.wrap (d2 * (H + L)) = d2 * (H + L) := IntWalk.i64_in _ ⟨by omega, by omega⟩
              have hwb : IntKind.i64.wrap ((D + S) * L) = (D + S) * L := IntWalk.i64_in _ ⟨by omega, by omega⟩
              have hda : decide ((D + S) * L < d2 * (H + L)) = false := by simp; omega
              have hdb : decide (H + L < L) = false := by simp; omega
              have HNE : Hid (∀ W, Calls Try.prog 24 #[.int .i64 d2, .int .i64 (D + S), .int .i64 L, .int .i64 (H + L)] W fun e w' => e = .returned (.bool true) ∧ W = w') := Lib.hid fun W => near_24 _ _ _ _ _ (by omega) (by omega) (by omega) (by omega)
              clear e8 e9 m1 m2 HG HRT
              have cW0 : u5.cell? ⟨w.heap.size, 0, none⟩ = some (.int .i64 L) := W9.out.cell 0
              have cW1 : u5.cell? ⟨w.heap.size, 1, none⟩ = some (.int .i64 S) := W9.out.cell 1
              have cF0 : u5.cell? ⟨w.heap.size + 1, 0, none⟩ = some (.int .i64 H) := F9.out.cell 0
              have cF1 : u5.cell? ⟨w.heap.size + 1, 1, none⟩ = some (.int .i64 D) := F9.out.cell 1
              have cM0 : u5.cell? ⟨v5.heap.size, 0, none⟩ = some (.int .i64 a1) := M9.out.cell 0
              have cM1 : u5.cell? ⟨v5.heap.size, 1, none⟩ = some (.int .i64 a2) := M9.out.cell 1
              have cO0 : u5.cell? ⟨v5.heap.size + 1, 0, none⟩ = some (.int .i64 L) := O9.out.cell 0
              have cO1 : u5.cell? ⟨v5.heap.size + 1, 1, none⟩ = some (.int .i64 d2) := O9.out.cell 1
              go_wp2_with fail
              go_quiet (fail)
              clear cW0 cW1 cF0 cF1 cM0 cM1 cO0 cO1
              have hb : Below u5.heap.size u5 (u5.drewN nq) := below_quiet (Below.refl _ _) ⟨nq, rfl⟩
              generalize u5.drewN nq = w6 at hb ⊢
              have B10 := Lib.hid (B9.out.trans (hb.mono B9.out.size))
              have W10 := Lib.hid (W9.out.below hb W9.out.lt)
              have F10 := Lib.hid (F9.out.below hb F9.out.lt)
              have M10 := Lib.hid (M9.out.below hb M9.out.lt)
              have O10 := Lib.hid (O9.out.below hb O9.out.lt)
              have hz10 := B10.out.size
              clear hb B9 W9 F9 M9 O9 hz9
              have hsW10 := W10.out.lt
              have hsF10 := F10.out.lt
              have hsM10 := M10.out.lt
              have hsO10 := O10.out.lt
              clear hsW9 hsF9 hsM9 hsO9
              have cW0 : w6.cell? ⟨w.heap.size, 0, none⟩ = some (.int .i64 L) := W10.out.cell 0
              have cW1 : w6.cell? ⟨w.heap.size, 1, none⟩ = some (.int .i64 S) := W10.out.cell 1
              have cF0 : w6.cell? ⟨w.heap.size + 1, 0, none⟩ = some (.int .i64 H) := F10.out.cell 0
              have cF1 : w6.cell? ⟨w.heap.size + 1, 1, none⟩ = some (.int .i64 D) := F10.out.cell 1
              have cM0 : w6.cell? ⟨v5.heap.size, 0, none⟩ = some (.int .i64 a1) := M10.out.cell 0
              have cM1 : w6.cell? ⟨v5.heap.size, 1, none⟩ = some (.int .i64 a2) := M10.out.cell 1
              have cO0 : w6.cell? ⟨v5.heap.size + 1, 0, none⟩ = some (.int .i64 L) := O10.out.cell 0
              have cO1 : w6.cell? ⟨v5.heap.size + 1, 1, none⟩ = some (.int .i64 d2) := O10.out.cell 1
              obtain ⟨N, hN⟩ : ∃ N, N = H + L := ⟨_, rfl⟩
              obtain ⟨Q, hQ⟩ : ∃ Q, Q = D + S := ⟨_, rfl⟩
              rw [← hN] at hwa hda hdb HNE ⊢
              rw [← hQ] at hwb hda HNE ⊢
              clear hN hQ hw3 hw4
              go_wp2_with fail
              refine (HNE.out _).mono ?_
              rintro e wa ⟨rfl, rfl⟩
              go_wp2_with fail
              go_ret
              exact ⟨rfl, B10.out⟩
            · have hG1 : (G == 0) = false := by simpa using hG
              have cM0 : u5.cell? ⟨v5.heap.size, 0, none⟩ = some (.int .i64 a1) := M9.out.cell 0
              have cM1 : u5.cell? ⟨v5.heap.size, 1, none⟩ = some (.int .i64 a2) := M9.out.cell 1
              have cO0 : u5.cell? ⟨v5.heap.size + 1, 0, none⟩ = some (.int .i64 d1) := O9.out.cell 0
              have cO1 : u5.cell? ⟨v5.heap.size + 1, 1, none⟩ = some (.int .i64 d2) := O9.out.cell 1
              go_wp2_with fail
              go_ret
              exact ⟨rfl, B9.out⟩
end Go.Proofs.Ythmebjbaigiehaa
