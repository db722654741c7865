/- Contract of the law SaltConserved: it returns true for every input. -/
import Derived.Test.YthmebjbaigiehaaLawB
import Derived.Test.YthmebjbaigiehaaPlain
namespace Go.Proofs.Ythmebjbaigiehaa
open Go.RowKit

set_option maxRecDepth 100000 in
set_option maxHeartbeats 4000000 in
theorem conserved_6 (L S ev se H D : Int) (A : Option Addr) (n c B : Nat) (P : Nat → Int) (w : World) (hm : n ≤ 9223372036854775807) (hB : B ≤ w.heap.size) (hr : Rd w B A n fun k => .int .i64 (P k)) :
    Calls Try.prog 6 #[.agg #[.int .i64 L, .int .i64 S], .slice A n c, .int .i64 ev, .int .i64 se, .agg #[.int .i64 H, .int .i64 D]] w fun e w' => e = .returned (.bool true) ∧ Below w.heap.size w w' := by
  have HR := Lib.hid hr
  clear hr
  obtain ⟨E, hE⟩ : ∃ E, E = splE L S n P := ⟨_, rfl⟩
  obtain ⟨m, hmm⟩ : ∃ m, m = if E = 0 then n else 0 := ⟨_, rfl⟩
  obtain ⟨Y, hY⟩ : ∃ Y, Y = splS L S P := ⟨_, rfl⟩
  have HX := Lib.hid (splC_16 L S A n c B P hm)
  have HMX : Hid (E = 0 → ∀ A1 c1 W, RdP W W.heap.size A1 n P Y → Calls Try.prog 12 #[.slice A1 n c1] W fun e w' => e = .returned (.tuple #[.agg #[.int .i64 L, .int .i64 S], .int .i64 0]) ∧ Below W.heap.size W w') := Lib.hid fun h A1 c1 W h1 => by
    have h2 := Mix_12 A1 n c1 _ P Y W hm (Nat.le_refl _) h1
    rw [hE] at h
    rw [hY, split_mix h, (splE_zero h).2.2.2, split_salt h] at h2
    exact h2
  have HY : Hid (E = 0 → ∀ k, k < n → 0 ≤ Y k) := Lib.hid fun h k hk => by rw [hE] at h; rw [hY]; exact (splS_at h hk).1
  rw [← hE, ← hmm, ← hY] at HX
  have HM := Lib.hid hmm
  clear hE hmm hY
  have HZ := Lib.hid (fun W => Lose_14 L S ev se W)
  have HL := Lib.hid (fun W => Leach_19 H D L S W)
  unfold prE at HZ HL
  have HF : Hid (losE L S ev se = 0 → orZ (losE L S ev se) (L - ev - se) + orZ (losE L S ev se) se + ev = L ∧ orZ (losE L S ev se) (S - losG L S ev se) + orZ (losE L S ev se) (losG L S ev se) = S ∧ orZ (losE L S ev se) se = se ∧ 0 ≤ orZ (losE L S ev se) (S - losG L S ev se) ∧ 0 ≤ orZ (losE L S ev se) (losG L S ev se) ∧
      (0 ≤ L ∧ L ≤ 1073741824) ∧ (0 ≤ S ∧ S ≤ 1073741824) ∧ (0 ≤ ev ∧ ev ≤ L) ∧ (0 ≤ se ∧ se ≤ L)) := Lib.hid fun h => by
    obtain ⟨z1, z2, z3, _⟩ := losE_zero h
    obtain ⟨z4, z5, _⟩ := rt_iff.1 z1
    have z6 := losG_range h
    simp only [orZ, h, if_true]
    exact ⟨by omega, by omega, trivial, by omega, by omega, z4, z5, by omega, by omega⟩
  have HG : Hid (lchE H D L S = 0 → orZ (lchE H D L S) H = H ∧ orZ (lchE H D L S) L = L ∧ orZ (lchE H D L S) (lchA H D L S) + orZ (lchE H D L S) (lchD H D L S) = D + S ∧ 0 ≤ orZ (lchE H D L S) (lchA H D L S) ∧ 0 ≤ orZ (lchE H D L S) (lchD H D L S) ∧ (0 ≤ D ∧ D ≤ 1073741824) ∧ (0 ≤ S ∧ S ≤ 1073741824) ∧ True) := Lib.hid fun h => by
    obtain ⟨_, z2, z3, _⟩ := lchE_zero h
    obtain ⟨z4, z5, _⟩ := rt_iff.1 z3
    have z6 := lch_facts h
    simp only [orZ, h, if_true]
    exact ⟨trivial, trivial, by unfold lchA; omega, by omega, by omega, z2, z5, trivial⟩
  have HG2 : Hid (lchE H D L S ≠ 0 → orZ (lchE H D L S) H = 0 ∧ orZ (lchE H D L S) (lchA H D L S) = 0 ∧ orZ (lchE H D L S) L = 0 ∧ orZ (lchE H D L S) (lchD H D L S) = 0) := Lib.hid fun h => by simp [orZ, h]
  generalize orZ (losE L S ev se) (L - ev - se) = l1 at HZ HF
  generalize orZ (losE L S ev se) (S - losG L S ev se) = l2 at HZ HF
  generalize orZ (losE L S ev se) (losG L S ev se) = g2 at HZ HF
  generalize orZ (losE L S ev se) se = g1 at HZ HF
  generalize losE L S ev se = F at HZ HF
  generalize orZ (lchE H D L S) (lchA H D L S) = a2 at HL HG HG2
  generalize orZ (lchE H D L S) (lchD H D L S) = d2 at HL HG HG2
  generalize orZ (lchE H D L S) H = a1 at HL HG HG2
  generalize orZ (lchE H D L S) L = d1 at HL HG HG2
  generalize lchE H D L S = G at HL HG HG2
  go_enter Try.func6, Try.ntmps6
  go_wp2_with fail
  obtain ⟨u0, hbx⟩ : ∃ zz, zz = (w.alloc (.cells #[.int .i64 L, .int .i64 S] 24)).alloc (.cells #[.int .i64 H, .int .i64 D] 38) := ⟨_, rfl⟩
  have NW : Blk u0 (w.heap.size) 24 #[.int .i64 L, .int .i64 S] := hbx ▸ ((Blk.new' rfl) |>.alloc _)
  have NF : Blk u0 (w.heap.size + 1) 38 #[.int .i64 H, .int .i64 D] := hbx ▸ ((Blk.new' (by simp)))
  have hb : Below w.heap.size w u0 := by rw [hbx]; (repeat (first | exact Below.refl _ _ | exact below_alloc _ _ | refine Below.alloc ?_ (by simp; omega) _ | refine Below.alloc ?_ (by simp) _))
  rw [← hbx]
  clear hbx
  have B1 := Lib.hid (show Below w.heap.size w u0 from hb)
  have hz1 := B1.out.size
  clear hb 
  have W1 := Lib.hid NW
  clear NW
  have hsW1 := W1.out.lt
  have F1 := Lib.hid NF
  clear NF
  have hsF1 := F1.out.lt
  refine (sane_11 _).mono ?_
  rintro e v0 ⟨rfl, hb⟩
  have B2 := Lib.hid (B1.out.trans (hb.mono B1.out.size))
  have W2 := Lib.hid (W1.out.below hb W1.out.lt)
  have F2 := Lib.hid (F1.out.below hb F1.out.lt)
  have hz2 := B2.out.size
  clear hb B1 W1 F1 hz1
  have hsW2 := W2.out.lt
  have hsF2 := F2.out.lt
  clear hsW1 hsF1
  have cW0 : v0.cell? ⟨w.heap.size, 0, none⟩ = some (.int .i64 L) := W2.out.cell 0
  have cW1 : v0.cell? ⟨w.heap.size, 1, none⟩ = some (.int .i64 S) := W2.out.cell 1
  go_wp2_with fail
  refine (HX.out _ (HR.out.below (B2.out.mono hB)) (by omega)).mono ?_
  rintro e v1 ⟨⟨A1, c1, rfl, hr1⟩, hb⟩
  clear cW0 cW1
  have B3 := Lib.hid (B2.out.trans (hb.mono B2.out.size))
  have W3 := Lib.hid (W2.out.below hb W2.out.lt)
  have F3 := Lib.hid (F2.out.below hb F2.out.lt)
  have hz3 := B3.out.size
  clear hb B2 W2 F2 hz2
  have hsW3 := W3.out.lt
  have hsF3 := F3.out.lt
  clear hsW2 hsF2
  have K3 := Lib.hid hr1
  clear hr1
  go_upto_if 32 with fail
  go_cut [] (fun wc => Below v1.heap.size v1 wc)
  case first =>
    have hz0 := B3.out.size
    by_cases h0 : E = 0
    · obtain rfl : m = n := by rw [HM.out, if_pos h0]
      subst h0
      have cW0 : v1.cell? ⟨w.heap.size, 0, none⟩ = some (.int .i64 L) := W3.out.cell 0
      have cW1 : v1.cell? ⟨w.heap.size, 1, none⟩ = some (.int .i64 S) := W3.out.cell 1
      have cF0 : v1.cell? ⟨w.heap.size + 1, 0, none⟩ = some (.int .i64 H) := F3.out.cell 0
      have cF1 : v1.cell? ⟨w.heap.size + 1, 1, none⟩ = some (.int .i64 D) := F3.out.cell 1
      go_wp2_with fail
      refine (HMX.out trivial A1 c1 _ K3.out).mono ?_
      rintro e v2 ⟨rfl, hb⟩
      clear cW0 cW1 cF0 cF1
      have B4 := Lib.hid (B3.out.trans (hb.mono B3.out.size))
      have D4 := Lib.hid (show Below v1.heap.size v1 v2 from hb)
      have W4 := Lib.hid (W3.out.below hb W3.out.lt)
      have F4 := Lib.hid (F3.out.below hb F3.out.lt)
      have K4 := Lib.hid (rd_step K3.out hb)
      have hz4 := B4.out.size
      clear hb B3 W3 F3 K3 hz3
      have hsW4 := W4.out.lt
      have hsF4 := F4.out.lt
      clear hsW3 hsF3
      go_upto_region 6 with fail
      obtain ⟨u2, hbx⟩ : ∃ zz, zz = v2.alloc (.cells #[.int .i64 L, .int .i64 S] 24) := ⟨_, rfl⟩
      have NX : Blk u2 (v2.heap.size) 24 #[.int .i64 L, .int .i64 S] := hbx ▸ ((Blk.new' rfl))
      have hb : Below v2.heap.size v2 u2 := by rw [hbx]; (repeat (first | exact Below.refl _ _ | exact below_alloc _ _ | refine Below.alloc ?_ (by simp; omega) _ | refine Below.alloc ?_ (by simp) _))
      rw [← hbx]
      clear hbx
      have B5 := Lib.hid (B4.out.trans (hb.mono B4.out.size))
      have D5 := Lib.hid (D4.out.trans (hb.mono D4.out.size))
      have W5 := Lib.hid (W4.out.below hb W4.out.lt)
      have F5 := Lib.hid (F4.out.below hb F4.out.lt)
      have K5 := Lib.hid (rd_step K4.out hb)
      have hz5 := B5.out.size
      clear hb B4 D4 W4 F4 K4 hz4
      have hsW5 := W5.out.lt
      have hsF5 := F5.out.lt
      clear hsW4 hsF4
      have X5 := Lib.hid NX
      clear NX
      have hsX5 := X5.out.lt
      have cW0 : u2.cell? ⟨w.heap.size, 0, none⟩ = some (.int .i64 L) := W5.out.cell 0
      have cW1 : u2.cell? ⟨w.heap.size, 1, none⟩ = some (.int .i64 S) := W5.out.cell 1
      have cX0 : u2.cell? ⟨v2.heap.size, 0, none⟩ = some (.int .i64 L) := X5.out.cell 0
      have cX1 : u2.cell? ⟨v2.heap.size, 1, none⟩ = some (.int .i64 S) := X5.out.cell 1
      go_wp2_with fail
      clear cW0 cW1 cX0 cX1
      have C15 := Lib.hid D5.out
      go_loopw [54] (fun i wr => ∃ k : Nat, k ≤ m ∧ i = .int .i64 k ∧ Below u2.heap.size u2 wr) (fun i _ => m - (intOf i).toNat)
      case atStart => exact ⟨0, Nat.zero_le _, rfl, Below.refl _ _⟩
      case round =>
        obtain ⟨k, hk, rfl, hb⟩ := hrel
        have B6 := Lib.hid (B5.out.trans (hb.mono B5.out.size))
        have D6 := Lib.hid (D5.out.trans (hb.mono D5.out.size))
        have C6 := Lib.hid (show Below u2.heap.size u2 wr from hb)
        have W6 := Lib.hid (W5.out.below hb W5.out.lt)
        have F6 := Lib.hid (F5.out.below hb F5.out.lt)
        have X6 := Lib.hid (X5.out.below hb X5.out.lt)
        have K6 := Lib.hid (rd_step K5.out hb)
        have hz6 := B6.out.size
        clear hb B5 D5 W5 F5 X5 K5 hz5
        have hsW6 := W6.out.lt
        have hsF6 := F6.out.lt
        have hsX6 := X6.out.lt
        clear hsW5 hsF5 hsX5
        by_cases hlt : k < m
        · have hlt' : (k : Int) < m := by omega
          obtain ⟨b, off, rfl, hbB, ca, cb⟩ := RdP.at_ K6.out hlt
          obtain ⟨b2, off2, rfl, hbB2, cp⟩ := (HR.out.below (B6.out.mono hB)) (by omega)
          have cp := cp k hlt
          go_upto_region 11 with fail
          clear ca cb cp
          obtain ⟨wx, hbx⟩ : ∃ zz, zz = wr.alloc (.cells #[.int .i64 (P k), .int .i64 (Y k)] 24) := ⟨_, rfl⟩
          have NZ : Blk wx (wr.heap.size) 24 #[.int .i64 (P k), .int .i64 (Y k)] := hbx ▸ ((Blk.new' rfl))
          have hb : Below wr.heap.size wr wx := by rw [hbx]; (repeat (first | exact Below.refl _ _ | exact below_alloc _ _ | refine Below.alloc ?_ (by simp; omega) _ | refine Below.alloc ?_ (by simp) _))
          rw [← hbx]
          clear hbx
          have B7 := Lib.hid (B6.out.trans (hb.mono B6.out.size))
          have D7 := Lib.hid (D6.out.trans (hb.mono D6.out.size))
          have C7 := Lib.hid (C6.out.trans (hb.mono C6.out.size))
          have W7 := Lib.hid (W6.out.below hb W6.out.lt)
          have F7 := Lib.hid (F6.out.below hb F6.out.lt)
          have X7 := Lib.hid (X6.out.below hb X6.out.lt)
          have K7 := Lib.hid (rd_step K6.out hb)
          have hz7 := B7.out.size
          clear hb B6 D6 C6 W6 F6 X6 K6 hz6
          have hsW7 := W7.out.lt
          have hsF7 := F7.out.lt
          have hsX7 := X7.out.lt
          clear hsW6 hsF6 hsX6
          have Z7 := Lib.hid NZ
          clear NZ
          have hsZ7 := Z7.out.lt
          have cZ0 : wx.cell? ⟨wr.heap.size, 0, none⟩ = some (.int .i64 (P k)) := Z7.out.cell 0
          have cZ1 : wx.cell? ⟨wr.heap.size, 1, none⟩ = some (.int .i64 (Y k)) := Z7.out.cell 1
          obtain ⟨b3, off3, e3, hbB3, cp⟩ := (HR.out.below (B7.out.mono hB)) (by omega)
          cases e3
          have cp := cp k hlt
          have hy : 0 ≤ Y k := HY.out trivial k hlt
          go_quiet (fail)
          clear cp
          clear cZ0 cZ1
          have hb : Below wx.heap.size wx (wx.drewN nq) := below_quiet (Below.refl _ _) ⟨nq, rfl⟩
          generalize wx.drewN nq = wy at hb ⊢
          have B8 := Lib.hid (B7.out.trans (hb.mono B7.out.size))
          have D8 := Lib.hid (D7.out.trans (hb.mono D7.out.size))
          have C8 := Lib.hid (C7.out.trans (hb.mono C7.out.size))
          have W8 := Lib.hid (W7.out.below hb W7.out.lt)
          have F8 := Lib.hid (F7.out.below hb F7.out.lt)
          have X8 := Lib.hid (X7.out.below hb X7.out.lt)
          have Z8 := Lib.hid (Z7.out.below hb Z7.out.lt)
          have K8 := Lib.hid (rd_step K7.out hb)
          have hz8 := B8.out.size
          clear hb B7 D7 C7 W7 F7 X7 Z7 K7 hz7
          have hsW8 := W8.out.lt
          have hsF8 := F8.out.lt
          have hsX8 := X8.out.lt
          have hsZ8 := Z8.out.lt
          clear hsW7 hsF7 hsX7 hsZ7
          go_wp2_with fail
          exact ⟨⟨k + 1, by omega, by go_num, C8.out⟩, by simp [intOf]; omega⟩
        · obtain rfl : k = m := by omega
          go_wp2_with fail
          go_meet
          case rel => exact C15.out.trans (C6.out.mono C15.out.size)
    · obtain rfl : m = 0 := by rw [HM.out, if_neg h0]
      go_wp2_with fail
      go_meet
      case rel => exact Below.refl _ _
  case rest =>
    clear HMX HY HX HM
    clear K3
    have B4 := Lib.hid (B3.out.trans (hcut.mono B3.out.size))
    have D4 := Lib.hid (show Below v1.heap.size v1 wc from hcut)
    have W4 := Lib.hid (W3.out.below hcut W3.out.lt)
    have F4 := Lib.hid (F3.out.below hcut F3.out.lt)
    have hz4 := B4.out.size
    clear hcut B3 W3 F3 hz3
    have hsW4 := W4.out.lt
    have hsF4 := F4.out.lt
    clear hsW3 hsF3
    clear D4
    have cW0 : wc.cell? ⟨w.heap.size, 0, none⟩ = some (.int .i64 L) := W4.out.cell 0
    have cW1 : wc.cell? ⟨w.heap.size, 1, none⟩ = some (.int .i64 S) := W4.out.cell 1
    go_wp2_with fail
    refine (HZ.out _).mono ?_
    rintro e v4 ⟨rfl, hb⟩
    clear cW0 cW1
    have B5 := Lib.hid (B4.out.trans (hb.mono B4.out.size))
    have W5 := Lib.hid (W4.out.below hb W4.out.lt)
    have F5 := Lib.hid (F4.out.below hb F4.out.lt)
    have hz5 := B5.out.size
    clear hb B4 W4 F4 hz4
    have hsW5 := W5.out.lt
    have hsF5 := F5.out.lt
    clear hsW4 hsF4
    go_upto_region 17 with fail
    obtain ⟨u4, hbx⟩ : ∃ zz, zz = (v4.alloc (.cells #[.int .i64 l1, .int .i64 l2] 24)).alloc (.cells #[.int .i64 g1, .int .i64 g2] 24) := ⟨_, rfl⟩
    have NX : Blk u4 (v4.heap.size) 24 #[.int .i64 l1, .int .i64 l2] := hbx ▸ ((Blk.new' rfl) |>.alloc _)
    have NZ : Blk u4 (v4.heap.size + 1) 24 #[.int .i64 g1, .int .i64 g2] := hbx ▸ ((Blk.new' (by simp)))
    have hb : Below v4.heap.size v4 u4 := by rw [hbx]; (repeat (first | exact Below.refl _ _ | exact below_alloc _ _ | refine Below.alloc ?_ (by simp; omega) _ | refine Below.alloc ?_ (by simp) _))
    rw [← hbx]
    clear hbx
    have B6 := Lib.hid (B5.out.trans (hb.mono B5.out.size))
    have W6 := Lib.hid (W5.out.below hb W5.out.lt)
    have F6 := Lib.hid (F5.out.below hb F5.out.lt)
    have hz6 := B6.out.size
    clear hb B5 W5 F5 hz5
    have hsW6 := W6.out.lt
    have hsF6 := F6.out.lt
    clear hsW5 hsF5
    have X6 := Lib.hid NX
    clear NX
    have hsX6 := X6.out.lt
    have Z6 := Lib.hid NZ
    clear NZ
    have hsZ6 := Z6.out.lt
    by_cases hF : F = 0
    · obtain ⟨e1, e2, rfl, e4, e5, e6⟩ := HF.out hF
      subst hF
      have hw1 : IntKind.i64.wrap (l1 + g1) = l1 + g1 := IntWalk.i64_in _ ⟨by omega, by omega⟩
      have hw2 : IntKind.i64.wrap (l1 + g1 + ev) = L := e1 ▸ IntWalk.i64_in _ ⟨by omega, by omega⟩
      have hw5 : IntKind.i64.wrap (l2 + g2) = S := e2 ▸ IntWalk.i64_in _ ⟨by omega, by omega⟩
      clear e1 e2 e6
      have cW0 : u4.cell? ⟨w.heap.size, 0, none⟩ = some (.int .i64 L) := W6.out.cell 0
      have cW1 : u4.cell? ⟨w.heap.size, 1, none⟩ = some (.int .i64 S) := W6.out.cell 1
      have cF0 : u4.cell? ⟨w.heap.size + 1, 0, none⟩ = some (.int .i64 H) := F6.out.cell 0
      have cF1 : u4.cell? ⟨w.heap.size + 1, 1, none⟩ = some (.int .i64 D) := F6.out.cell 1
      have cX0 : u4.cell? ⟨v4.heap.size, 0, none⟩ = some (.int .i64 l1) := X6.out.cell 0
      have cX1 : u4.cell? ⟨v4.heap.size, 1, none⟩ = some (.int .i64 l2) := X6.out.cell 1
      have cZ0 : u4.cell? ⟨v4.heap.size + 1, 0, none⟩ = some (.int .i64 g1) := Z6.out.cell 0
      have cZ1 : u4.cell? ⟨v4.heap.size + 1, 1, none⟩ = some (.int .i64 g2) := Z6.out.cell 1
      go_wp2_with fail
      refine (HL.out _).mono ?_
      rintro e v5 ⟨rfl, hb⟩
      clear cW0 cW1 cF0 cF1 cX0 cX1 cZ0 cZ1
      have B7 := Lib.hid (B6.out.trans (hb.mono B6.out.size))
      have W7 := Lib.hid (W6.out.below hb W6.out.lt)
      have F7 := Lib.hid (F6.out.below hb F6.out.lt)
      have X7 := Lib.hid (X6.out.below hb X6.out.lt)
      have Z7 := Lib.hid (Z6.out.below hb Z6.out.lt)
      have hz7 := B7.out.size
      clear hb B6 W6 F6 X6 Z6 hz6
      have hsW7 := W7.out.lt
      have hsF7 := F7.out.lt
      have hsX7 := X7.out.lt
      have hsZ7 := Z7.out.lt
      clear hsW6 hsF6 hsX6 hsZ6
      clear X7 hsX7 Z7 hsZ7
      go_upto_region 20 with fail
      obtain ⟨u5, hbx⟩ : ∃ zz, zz = (v5.alloc (.cells #[.int .i64 a1, .int .i64 a2] 38)).alloc (.cells #[.int .i64 d1, .int .i64 d2] 24) := ⟨_, rfl⟩
      have NM : Blk u5 (v5.heap.size) 38 #[.int .i64 a1, .int .i64 a2] := hbx ▸ ((Blk.new' rfl) |>.alloc _)
      have NO : Blk u5 (v5.heap.size + 1) 24 #[.int .i64 d1, .int .i64 d2] := hbx ▸ ((Blk.new' (by simp)))
      have hb : Below v5.heap.size v5 u5 := by rw [hbx]; (repeat (first | exact Below.refl _ _ | exact below_alloc _ _ | refine Below.alloc ?_ (by simp; omega) _ | refine Below.alloc ?_ (by simp) _))
      rw [← hbx]
      clear hbx
      have B8 := Lib.hid (B7.out.trans (hb.mono B7.out.size))
      have W8 := Lib.hid (W7.out.below hb W7.out.lt)
      have F8 := Lib.hid (F7.out.below hb F7.out.lt)
      have hz8 := B8.out.size
      clear hb B7 W7 F7 hz7
      have hsW8 := W8.out.lt
      have hsF8 := F8.out.lt
      clear hsW7 hsF7
      have M8 := Lib.hid NM
      clear NM
      have hsM8 := M8.out.lt
      have O8 := Lib.hid NO
      clear NO
      have hsO8 := O8.out.lt
      by_cases hG : G = 0
      · obtain ⟨e1, e2, e3, e4, e5, e6, e7, e8⟩ := HG.out hG
        subst hG
        have hw3 : IntKind.i64.wrap (a2 + d2) = D + S := e3 ▸ IntWalk.i64_in _ ⟨by omega, by omega⟩
        have hw4 : IntKind.i64.wrap (D + S) = D + S := IntWalk.i64_in _ ⟨by omega, by omega⟩
        clear e3 e6 e7 e8
        have cW0 : u5.cell? ⟨w.heap.size, 0, none⟩ = some (.int .i64 L) := W8.out.cell 0
        have cW1 : u5.cell? ⟨w.heap.size, 1, none⟩ = some (.int .i64 S) := W8.out.cell 1
        have cF0 : u5.cell? ⟨w.heap.size + 1, 0, none⟩ = some (.int .i64 H) := F8.out.cell 0
        have cF1 : u5.cell? ⟨w.heap.size + 1, 1, none⟩ = some (.int .i64 D) := F8.out.cell 1
        have cM0 : u5.cell? ⟨v5.heap.size, 0, none⟩ = some (.int .i64 a1) := M8.out.cell 0
        have cM1 : u5.cell? ⟨v5.heap.size, 1, none⟩ = some (.int .i64 a2) := M8.out.cell 1
        have cO0 : u5.cell? ⟨v5.heap.size + 1, 0, none⟩ = some (.int .i64 d1) := O8.out.cell 0
        have cO1 : u5.cell? ⟨v5.heap.size + 1, 1, none⟩ = some (.int .i64 d2) := O8.out.cell 1
        go_wp2_with fail
        go_ret
        exact ⟨rfl, B8.out⟩
      · obtain ⟨rfl, rfl, rfl, rfl⟩ := HG2.out hG
        have hG1 : (G == 0) = false := by simpa using hG
        have hG2 : (G != 0) = true := by simpa using hG
        have cM0 : u5.cell? ⟨v5.heap.size, 0, none⟩ = some (.int .i64 0) := M8.out.cell 0
        have cM1 : u5.cell? ⟨v5.heap.size, 1, none⟩ = some (.int .i64 0) := M8.out.cell 1
        have cO0 : u5.cell? ⟨v5.heap.size + 1, 0, none⟩ = some (.int .i64 0) := O8.out.cell 0
        have cO1 : u5.cell? ⟨v5.heap.size + 1, 1, none⟩ = some (.int .i64 0) := O8.out.cell 1
        go_wp2_with fail
        go_ret
        exact ⟨rfl, B8.out⟩
    · have hF1 : (F == 0) = false := by simpa using hF
      have cW0 : u4.cell? ⟨w.heap.size, 0, none⟩ = some (.int .i64 L) := W6.out.cell 0
      have cW1 : u4.cell? ⟨w.heap.size, 1, none⟩ = some (.int .i64 S) := W6.out.cell 1
      have cF0 : u4.cell? ⟨w.heap.size + 1, 0, none⟩ = some (.int .i64 H) := F6.out.cell 0
      have cF1 : u4.cell? ⟨w.heap.size + 1, 1, none⟩ = some (.int .i64 D) := F6.out.cell 1
      have cX0 : u4.cell? ⟨v4.heap.size, 0, none⟩ = some (.int .i64 l1) := X6.out.cell 0
      have cX1 : u4.cell? ⟨v4.heap.size, 1, none⟩ = some (.int .i64 l2) := X6.out.cell 1
      have cZ0 : u4.cell? ⟨v4.heap.size + 1, 0, none⟩ = some (.int .i64 g1) := Z6.out.cell 0
      have cZ1 : u4.cell? ⟨v4.heap.size + 1, 1, none⟩ = some (.int .i64 g2) := Z6.out.cell 1
      go_wp2_with fail
      refine (HL.out _).mono ?_
      rintro e v5 ⟨rfl, hb⟩
      clear cW0 cW1 cF0 cF1 cX0 cX1 cZ0 cZ1
      have B7 := Lib.hid (B6.out.trans (hb.mono B6.out.size))
      have W7 := Lib.hid (W6.out.below hb W6.out.lt)
      have F7 := Lib.hid (F6.out.below hb F6.out.lt)
      have X7 := Lib.hid (X6.out.below hb X6.out.lt)
      have Z7 := Lib.hid (Z6.out.below hb Z6.out.lt)
      have hz7 := B7.out.size
      clear hb B6 W6 F6 X6 Z6 hz6
      have hsW7 := W7.out.lt
      have hsF7 := F7.out.lt
      have hsX7 := X7.out.lt
      have hsZ7 := Z7.out.lt
      clear hsW6 hsF6 hsX6 hsZ6
      clear X7 hsX7 Z7 hsZ7
      go_upto_region 20 with fail
      obtain ⟨u5, hbx⟩ : ∃ zz, zz = (v5.alloc (.cells #[.int .i64 a1, .int .i64 a2] 38)).alloc (.cells #[.int .i64 d1, .int .i64 d2] 24) := ⟨_, rfl⟩
      have NM : Blk u5 (v5.heap.size) 38 #[.int .i64 a1, .int .i64 a2] := hbx ▸ ((Blk.new' rfl) |>.alloc _)
      have NO : Blk u5 (v5.heap.size + 1) 24 #[.int .i64 d1, .int .i64 d2] := hbx ▸ ((Blk.new' (by simp)))
      have hb : Below v5.heap.size v5 u5 := by rw [hbx]; (repeat (first | exact Below.refl _ _ | exact below_alloc _ _ | refine Below.alloc ?_ (by simp; omega) _ | refine Below.alloc ?_ (by simp) _))
      rw [← hbx]
      clear hbx
      have B8 := Lib.hid (B7.out.trans (hb.mono B7.out.size))
      have W8 := Lib.hid (W7.out.below hb W7.out.lt)
      have F8 := Lib.hid (F7.out.below hb F7.out.lt)
      have hz8 := B8.out.size
      clear hb B7 W7 F7 hz7
      have hsW8 := W8.out.lt
      have hsF8 := F8.out.lt
      clear hsW7 hsF7
      have M8 := Lib.hid NM
      clear NM
      have hsM8 := M8.out.lt
      have O8 := Lib.hid NO
      clear NO
      have hsO8 := O8.out.lt
      by_cases hG : G = 0
      · obtain ⟨e1, e2, e3, e4, e5, e6, e7, e8⟩ := HG.out hG
        subst hG
        have hw3 : IntKind.i64.wrap (a2 + d2) = D + S := e3 ▸ IntWalk.i64_in _ ⟨by omega, by omega⟩
        have hw4 : IntKind.i64.wrap (D + S) = D + S := IntWalk.i64_in _ ⟨by omega, by omega⟩
        clear e3 e6 e7 e8
        have cW0 : u5.cell? ⟨w.heap.size, 0, none⟩ = some (.int .i64 L) := W8.out.cell 0
        have cW1 : u5.cell? ⟨w.heap.size, 1, none⟩ = some (.int .i64 S) := W8.out.cell 1
        have cF0 : u5.cell? ⟨w.heap.size + 1, 0, none⟩ = some (.int .i64 H) := F8.out.cell 0
        have cF1 : u5.cell? ⟨w.heap.size + 1, 1, none⟩ = some (.int .i64 D) := F8.out.cell 1
        have cM0 : u5.cell? ⟨v5.heap.size, 0, none⟩ = some (.int .i64 a1) := M8.out.cell 0
        have cM1 : u5.cell? ⟨v5.heap.size, 1, none⟩ = some (.int .i64 a2) := M8.out.cell 1
        have cO0 : u5.cell? ⟨v5.heap.size + 1, 0, none⟩ = some (.int .i64 d1) := O8.out.cell 0
        have cO1 : u5.cell? ⟨v5.heap.size + 1, 1, none⟩ = some (.int .i64 d2) := O8.out.cell 1
        go_wp2_with fail
        go_ret
        exact ⟨rfl, B8.out⟩
      · obtain ⟨rfl, rfl, rfl, rfl⟩ := HG2.out hG
        have hG1 : (G == 0) = false := by simpa using hG
        have hG2 : (G != 0) = true := by simpa using hG
        have cM0 : u5.cell? ⟨v5.heap.size, 0, none⟩ = some (.int .i64 0) := M8.out.cell 0
        have cM1 : u5.cell? ⟨v5.heap.size, 1, none⟩ = some (.int .i64 0) := M8.out.cell 1
        have cO0 : u5.cell? ⟨v5.heap.size + 1, 0, none⟩ = some (.int .i64 0) := O8.out.cell 0
        have cO1 : u5.cell? ⟨v5.heap.size + 1, 1, none⟩ = some (.int .i64 0) := O8.out.cell 1
        go_wp2_with fail
        go_ret
        exact ⟨rfl, B8.out⟩
end Go.Proofs.Ythmebjbaigiehaa
