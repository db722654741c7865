/- Contract of the law SaltLeaching: it returns true for every input. -/
import Derived.Test.YthmebjbaigiehaaLawD
import Derived.Test.YthmebjbaigiehaaPlainC
namespace Go.Proofs.Ythmebjbaigiehaa
open Go.RowKit

set_option maxRecDepth 100000 in
set_option maxHeartbeats 4000000 in
theorem leaching_10 (H D L S most lim less more : Int) (w : World) (hless : 0 ≤ less ∧ less ≤ 65535) (hmore : 0 ≤ more ∧ more ≤ 65535) :
    Calls Try.prog 10 #[.agg #[.int .i64 H, .int .i64 D], .agg #[.int .i64 L, .int .i64 S], .int .i64 most, .int .i64 lim, .int .u16 less, .int .u16 more] w fun e w' => e = .returned (.bool true) ∧ Below w.heap.size w w' := by
  have HL0 : Hid (∀ W A, lchE H A L S = 0 → Calls Try.prog 19 #[.agg #[.int .i64 H, .int .i64 A], .agg #[.int .i64 L, .int .i64 S]] W fun e w' => e = .returned (.tuple #[.agg #[.int .i64 H, .int .i64 (lchA H A L S)], .agg #[.int .i64 L, .int .i64 (lchD H A L S)], .int .i64 0]) ∧ Below W.heap.size W w') := Lib.hid fun W A h => by
    have h1 := Leach_19 H A L S W
    rw [h] at h1
    exact h1
  have HL1 : Hid (∀ W A, lchE H A L S ≠ 0 → Calls Try.prog 19 #[.agg #[.int .i64 H, .int .i64 A], .agg #[.int .i64 L, .int .i64 S]] W fun e w' => e = .returned (.tuple #[.agg #[.int .i64 0, .int .i64 0], .agg #[.int .i64 0, .int .i64 0], .int .i64 430]) ∧ Below W.heap.size W w') := Lib.hid fun W A h => by
    have h1 := Leach_19 H A L S W
    rw [(lchE_cases H A L S).resolve_left h] at h1
    exact h1
  have HZ : Hid (lchE H D L S = 0 → (1 ≤ H ∧ H ≤ 1073741824) ∧ (0 ≤ D ∧ D ≤ 1073741824) ∧ (0 ≤ L ∧ L ≤ 1073741824) ∧ (0 ≤ S ∧ S ≤ 1073741824) ∧ (S * H ≤ D * L → lchA H D L S ≤ D)) := Lib.hid fun h => by
    obtain ⟨z1, z2, z3, _⟩ := lchE_zero h
    obtain ⟨z4, z5, _⟩ := rt_iff.1 z3
    exact ⟨z1, z2, z4, z5, lchA_le h⟩
  obtain ⟨o, ho⟩ : ∃ o, o = trn H L S lim most.toNat D := ⟨_, rfl⟩
  have HT1 : Hid (lchE H D L S ≠ 0 → ∀ W, Calls Try.prog 21 #[.agg #[.int .i64 H, .int .i64 D], .agg #[.int .i64 L, .int .i64 S], .int .i64 most, .int .i64 lim] W fun e w' => e = .returned (.tuple #[.int .i64 0, .bool false, .int .i64 430]) ∧ Below W.heap.size W w') := Lib.hid fun h W => by
    have h1 := Turns_21 H D L S most lim W
    rw [trnE_bad h, (lchE_cases H D L S).resolve_left h] at h1
    exact h1
  have HT2 : Hid (lchE H D L S = 0 → trnE H D L S most lim ≠ 0 → ∀ W, Calls Try.prog 21 #[.agg #[.int .i64 H, .int .i64 D], .agg #[.int .i64 L, .int .i64 S], .int .i64 most, .int .i64 lim] W fun e w' => e = .returned (.tuple #[.int .i64 0, .bool false, .int .i64 1]) ∧ Below W.heap.size W w') := Lib.hid fun h h' W => by
    have h1 := Turns_21 H D L S most lim W
    rw [trnE_arg h h'] at h1
    exact h1
  have HT3 : Hid (lchE H D L S = 0 → trnE H D L S most lim = 0 → trn H L S lim most.toNat D = none → ∀ W, Calls Try.prog 21 #[.agg #[.int .i64 H, .int .i64 D], .agg #[.int .i64 L, .int .i64 S], .int .i64 most, .int .i64 lim] W fun e w' => e = .returned (.tuple #[.int .i64 0, .bool false, .int .i64 0]) ∧ Below W.heap.size W w') := Lib.hid fun h h' h2 W => by
    have h1 := Turns_21 H D L S most lim W
    rw [h', h2] at h1
    exact h1
  have HT4 : Hid (lchE H D L S = 0 → trnE H D L S most lim = 0 → ∀ {n0 : Nat}, trn H L S lim most.toNat D = some n0 → ∀ W, Calls Try.prog 21 #[.agg #[.int .i64 H, .int .i64 D], .agg #[.int .i64 L, .int .i64 S], .int .i64 most, .int .i64 lim] W fun e w' => e = .returned (.tuple #[.int .i64 n0, .bool true, .int .i64 0]) ∧ Below W.heap.size W w') := Lib.hid fun h h' n0 h2 W => by
    have h1 := Turns_21 H D L S most lim W
    rw [h', h2] at h1
    exact h1
  have HIT : Hid (itA H L S D 0 = D ∧ ∀ k, itA H L S D (k + 1) = lchA H (itA H L S D k) L S) := Lib.hid ⟨rfl, fun _ => rfl⟩
  have HLN : Hid (trn H L S lim most.toNat D = none → ∀ k, k ≤ most.toNat → (∀ j, j < k → lchE H (itA H L S D j) L S = 0) → (itA H L S D k ≤ lim ↔ False ∧ k = most.toNat) ∧ (lchE H (itA H L S D k) L S ≠ 0 → ¬ (False ∧ k < most.toNat))) := Lib.hid fun h k hk hj => by
    simpa using leach_loop h hk hj
  have HLS : Hid (∀ {n0 : Nat}, trn H L S lim most.toNat D = some n0 → ∀ k, k ≤ n0 → (∀ j, j < k → lchE H (itA H L S D j) L S = 0) → (itA H L S D k ≤ lim ↔ True ∧ k = n0) ∧ (lchE H (itA H L S D k) L S ≠ 0 → ¬ (True ∧ k < n0))) := Lib.hid fun h k hk hj => by
    simpa using leach_loop h hk hj
  have HZT : Hid (trnE H D L S most lim = 0 → (0 ≤ most ∧ most ≤ 400) ∧ (0 ≤ lim ∧ lim ≤ 1073741824) ∧ trn H L S lim most.toNat D = o) := Lib.hid fun h => ⟨(trnE_zero h).2.1, (trnE_zero h).2.2, ho.symm⟩
  clear ho
  generalize itA H L S D = it at HIT HLN HLS
  have HTL : Hid (∀ {n0 : Nat}, trn H L S lim most.toNat D = some n0 → n0 ≤ most.toNat) := Lib.hid fun h => trn_le _ _ _ h
  have HT5 : Hid (lchE H D L S = 0 → trnE H D L S most lim = 0 → ∀ {n0 : Nat}, trn H L S lim most.toNat D = some n0 → ∃ m : Nat, m ≤ n0 ∧ ∀ W, Calls Try.prog 21 #[.agg #[.int .i64 H, .int .i64 (max 0 (D - less))], .agg #[.int .i64 L, .int .i64 S], .int .i64 most, .int .i64 (min 1073741824 (lim + more))] W fun e w' => e = .returned (.tuple #[.int .i64 m, .bool true, .int .i64 0]) ∧ Below W.heap.size W w') := Lib.hid fun h h' n0 h2 => by
    obtain ⟨_, z2, z3⟩ := trnE_zero h'
    obtain ⟨_, z4, _⟩ := lchE_zero h
    obtain ⟨m, hm, hmn⟩ := trn_mono (lim' := min 1073741824 (lim + more)) (by omega) most.toNat D (max 0 (D - less)) n0 (by omega) (by omega) h2
    have z5 : lchE H (max 0 (D - less)) L S = 0 := lchE_less h (by omega) (by omega)
    have z6 : trnE H (max 0 (D - less)) L S most (min 1073741824 (lim + more)) = 0 := by
      rw [trnE, if_pos z5, if_pos ⟨inB_iff.2 z2, inB_iff.2 (by omega)⟩]
    refine ⟨m, hmn, fun W => ?_⟩
    have h1 := Turns_21 H (max 0 (D - less)) L S most (min 1073741824 (lim + more)) W
    rw [z6, hm] at h1
    exact h1
  go_enter Try.func10, Try.ntmps10
  go_wp2_with fail
  obtain ⟨u0, hbx⟩ : ∃ zz, zz = (w.alloc (.cells #[.int .i64 H, .int .i64 D] 38)).alloc (.cells #[.int .i64 L, .int .i64 S] 24) := ⟨_, rfl⟩
  have NF : Blk u0 (w.heap.size) 38 #[.int .i64 H, .int .i64 D] := hbx ▸ ((Blk.new' rfl) |>.alloc _)
  have NW : Blk u0 (w.heap.size + 1) 24 #[.int .i64 L, .int .i64 S] := hbx ▸ ((Blk.new' (by simp)))
  have hb : Below w.heap.size w u0 := by rw [hbx]; (repeat (first | exact Below.refl _ _ | exact below_alloc _ _ | refine Below.alloc ?_ (by simp; omega) _ | refine Below.alloc ?_ (by simp) _))
  rw [← hbx]
  clear hbx
  have B1 := Lib.hid (show Below w.heap.size w u0 from hb)
  have hz1 := B1.out.size
  clear hb 
  have F1 := Lib.hid NF
  clear NF
  have hsF1 := F1.out.lt
  have W1 := Lib.hid NW
  clear NW
  have hsW1 := W1.out.lt
  refine (sane_11 _).mono ?_
  rintro e v0 ⟨rfl, hb⟩
  have B2 := Lib.hid (B1.out.trans (hb.mono B1.out.size))
  have F2 := Lib.hid (F1.out.below hb F1.out.lt)
  have W2 := Lib.hid (W1.out.below hb W1.out.lt)
  have hz2 := B2.out.size
  clear hb B1 F1 W1 hz1
  have hsF2 := F2.out.lt
  have hsW2 := W2.out.lt
  clear hsF1 hsW1
  by_cases hE : lchE H D L S = 0
  · have cF0 : v0.cell? ⟨w.heap.size, 0, none⟩ = some (.int .i64 H) := F2.out.cell 0
    have cF1 : v0.cell? ⟨w.heap.size, 1, none⟩ = some (.int .i64 D) := F2.out.cell 1
    have cW0 : v0.cell? ⟨w.heap.size + 1, 0, none⟩ = some (.int .i64 L) := W2.out.cell 0
    have cW1 : v0.cell? ⟨w.heap.size + 1, 1, none⟩ = some (.int .i64 S) := W2.out.cell 1
    go_wp2_with fail
    refine (HL0.out _ _ hE).mono ?_
    rintro e v1 ⟨rfl, hb⟩
    clear cF0 cF1 cW0 cW1
    have B3 := Lib.hid (B2.out.trans (hb.mono B2.out.size))
    have F3 := Lib.hid (F2.out.below hb F2.out.lt)
    have W3 := Lib.hid (W2.out.below hb W2.out.lt)
    have hz3 := B3.out.size
    clear hb B2 F2 W2 hz2
    have hsF3 := F3.out.lt
    have hsW3 := W3.out.lt
    clear hsF2 hsW2
    go_upto_region 4 with fail
    obtain ⟨u1, hbx⟩ : ∃ zz, zz = (v1.alloc (.cells #[.int .i64 H, .int .i64 (lchA H D L S)] 38)).alloc (.cells #[.int .i64 L, .int .i64 (lchD H D L S)] 24) := ⟨_, rfl⟩
    have NG : Blk u1 (v1.heap.size) 38 #[.int .i64 H, .int .i64 (lchA H D L S)] := hbx ▸ ((Blk.new' rfl) |>.alloc _)
    have NR : Blk u1 (v1.heap.size + 1) 24 #[.int .i64 L, .int .i64 (lchD H D L S)] := hbx ▸ ((Blk.new' (by simp)))
    have hb : Below v1.heap.size v1 u1 := by rw [hbx]; (repeat (first | exact Below.refl _ _ | exact below_alloc _ _ | refine Below.alloc ?_ (by simp; omega) _ | refine Below.alloc ?_ (by simp) _))
    rw [← hbx]
    clear hbx
    have B4 := Lib.hid (B3.out.trans (hb.mono B3.out.size))
    have F4 := Lib.hid (F3.out.below hb F3.out.lt)
    have W4 := Lib.hid (W3.out.below hb W3.out.lt)
    have hz4 := B4.out.size
    clear hb B3 F3 W3 hz3
    have hsF4 := F4.out.lt
    have hsW4 := W4.out.lt
    clear hsF3 hsW3
    have G4 := Lib.hid NG
    clear NG
    have hsG4 := G4.out.lt
    have R4 := Lib.hid NR
    clear NR
    have hsR4 := R4.out.lt
    obtain ⟨⟨z1, z2⟩, ⟨z3, z4⟩, ⟨z5, z6⟩, ⟨z7, z8⟩, z9⟩ := HZ.out hE
    by_cases hT : trnE H D L S most lim = 0
    · obtain ⟨⟨t0, t1⟩, ⟨t2, t3⟩, tm⟩ := HZT.out hT
      cases o with
      | none =>
        have cF0 : u1.cell? ⟨w.heap.size, 0, none⟩ = some (.int .i64 H) := F4.out.cell 0
        have cF1 : u1.cell? ⟨w.heap.size, 1, none⟩ = some (.int .i64 D) := F4.out.cell 1
        have cW0 : u1.cell? ⟨w.heap.size + 1, 0, none⟩ = some (.int .i64 L) := W4.out.cell 0
        have cW1 : u1.cell? ⟨w.heap.size + 1, 1, none⟩ = some (.int .i64 S) := W4.out.cell 1
        have cG0 : u1.cell? ⟨v1.heap.size, 0, none⟩ = some (.int .i64 H) := G4.out.cell 0
        have cG1 : u1.cell? ⟨v1.heap.size, 1, none⟩ = some (.int .i64 (lchA H D L S)) := G4.out.cell 1
        have cR0 : u1.cell? ⟨v1.heap.size + 1, 0, none⟩ = some (.int .i64 L) := R4.out.cell 0
        have cR1 : u1.cell? ⟨v1.heap.size + 1, 1, none⟩ = some (.int .i64 (lchD H D L S)) := R4.out.cell 1
        go_wp2_with fail
        refine (HT3.out hE hT tm _).mono ?_
        rintro e v2 ⟨rfl, hb⟩
        clear cF0 cF1 cW0 cW1 cG0 cG1 cR0 cR1
        have B5 := Lib.hid (B4.out.trans (hb.mono B4.out.size))
        have F5 := Lib.hid (F4.out.below hb F4.out.lt)
        have W5 := Lib.hid (W4.out.below hb W4.out.lt)
        have G5 := Lib.hid (G4.out.below hb G4.out.lt)
        have R5 := Lib.hid (R4.out.below hb R4.out.lt)
        have hz5 := B5.out.size
        clear hb B4 F4 W4 G4 R4 hz4
        have hsF5 := F5.out.lt
        have hsW5 := W5.out.lt
        have hsG5 := G5.out.lt
        have hsR5 := R5.out.lt
        clear hsF4 hsW4 hsG4 hsR4
        have cF0 : v2.cell? ⟨w.heap.size, 0, none⟩ = some (.int .i64 H) := F5.out.cell 0
        have cF1 : v2.cell? ⟨w.heap.size, 1, none⟩ = some (.int .i64 D) := F5.out.cell 1
        have cW0 : v2.cell? ⟨w.heap.size + 1, 0, none⟩ = some (.int .i64 L) := W5.out.cell 0
        have cW1 : v2.cell? ⟨w.heap.size + 1, 1, none⟩ = some (.int .i64 S) := W5.out.cell 1
        have cG0 : v2.cell? ⟨v1.heap.size, 0, none⟩ = some (.int .i64 H) := G5.out.cell 0
        have cG1 : v2.cell? ⟨v1.heap.size, 1, none⟩ = some (.int .i64 (lchA H D L S)) := G5.out.cell 1
        go_upto_region 7 with fail
        have m1 := mul_range z7 z8 (show 0 ≤ H by omega) z2
        have m2 := mul_range z3 z4 z5 z6
        have hw1 : IntKind.i64.wrap (S * H) = S * H := IntWalk.i64_in _ ⟨by omega, by omega⟩
        have hw2 : IntKind.i64.wrap (D * L) = D * L := IntWalk.i64_in _ ⟨by omega, by omega⟩
        go_cut [77] (fun s77 wc => s77 = .bool false ∧ wc = v2)
        case first =>
          by_cases hs : S * H ≤ D * L
          · have hg := z9 hs
            have hs1 : decide (S * H ≤ D * L) = true := by simpa using hs
            have hg1 : decide (D < lchA H D L S) = false := by simp; omega
            go_wp2_with fail
            go_meet
            case rel => exact ⟨rfl, rfl⟩
          · have hs1 : decide (S * H ≤ D * L) = false := by simpa using hs
            go_wp2_with fail
            go_meet
            case rel => exact ⟨rfl, rfl⟩
        case rest =>
          obtain ⟨rfl, rfl⟩ := hcut
          clear m1 m2 hw1 hw2 z9
          clear cF0 cF1 cW0 cW1 cG0 cG1
          have cF0 : wc.cell? ⟨w.heap.size, 0, none⟩ = some (.int .i64 H) := F5.out.cell 0
          have cF1 : wc.cell? ⟨w.heap.size, 1, none⟩ = some (.int .i64 D) := F5.out.cell 1
          go_upto_region 16 with fail
          have BB := Lib.hid B5.out
          have FF := Lib.hid F5.out
          have WW := Lib.hid W5.out
          clear cF0 cF1
          obtain ⟨u3, hbx⟩ : ∃ zz, zz = wc.alloc (.cells #[.int .i64 H, .int .i64 D] 38) := ⟨_, rfl⟩
          have NX : Blk u3 (wc.heap.size) 38 #[.int .i64 H, .int .i64 D] := hbx ▸ ((Blk.new' rfl))
          have hb : Below wc.heap.size wc u3 := by rw [hbx]; (repeat (first | exact Below.refl _ _ | exact below_alloc _ _ | refine Below.alloc ?_ (by simp; omega) _ | refine Below.alloc ?_ (by simp) _))
          rw [← hbx]
          clear hbx
          have B6 := Lib.hid (B5.out.trans (hb.mono B5.out.size))
          have C6 := Lib.hid (show Below wc.heap.size wc u3 from hb)
          have F6 := Lib.hid (F5.out.below hb F5.out.lt)
          have W6 := Lib.hid (W5.out.below hb W5.out.lt)
          have G6 := Lib.hid (G5.out.below hb G5.out.lt)
          have R6 := Lib.hid (R5.out.below hb R5.out.lt)
          have hz6 := B6.out.size
          clear hb B5 F5 W5 G5 R5 hz5
          have hsF6 := F6.out.lt
          have hsW6 := W6.out.lt
          have hsG6 := G6.out.lt
          have hsR6 := R6.out.lt
          clear hsF5 hsW5 hsG5 hsR5
          have X6 := Lib.hid NX
          clear NX
          have hsX6 := X6.out.lt
          go_wp2_with fail
          go_loopw [20, 21] (fun ls i wr => ∃ (k : Nat) (b : Bool) (p q : Int), k ≤ most.toNat + 1 ∧ i = .int .i64 k ∧ ls = .bool b ∧ Blk wr (wc.heap.size) 38 #[.int .i64 p, .int .i64 q] ∧ Below wc.heap.size wc wr ∧ (b = false → p = H ∧ q = it k ∧ ∀ j, j < k → lchE H (it j) L S = 0)) (fun _ i _ => most.toNat + 1 - (intOf i).toNat)
          case atStart => exact ⟨0, false, H, D, by omega, rfl, rfl, X6.out, C6.out, fun _ => ⟨rfl, HIT.out.1.symm, fun j hj => absurd hj (by omega)⟩⟩
          case round =>
            obtain ⟨k, b, p, q, hk, rfl, rfl, hx, hb, hq⟩ := hrel
            have CR := Lib.hid hb
            have hcr := CR.out.size
            have B99 := Lib.hid (BB.out.trans (CR.out.mono BB.out.size))
            have F99 := Lib.hid (FF.out.below CR.out FF.out.lt)
            have W99 := Lib.hid (WW.out.below CR.out WW.out.lt)
            have X99 := Lib.hid hx
            clear hb hx
            have hz99 := B99.out.size
            have hsX99 := X99.out.lt
            have hkb : k ≤ 401 := by omega
            by_cases hgo : k ≤ most.toNat ∧ b = false
            · obtain ⟨hkn, rfl⟩ := hgo
              obtain ⟨e1, e2, hj⟩ := hq rfl
              subst e2
              have e1 := e1.symm
              subst e1
              obtain ⟨f1, f2⟩ := HLN.out tm k hkn hj
              have hki : (k : Int) ≤ most := by omega
              have f3 : decide (it k ≤ lim) = false := by simp only [decide_eq_false_iff_not]; exact fun h => by cases (f1.1 h).1
              by_cases he : lchE H (it k) L S = 0
              · have cW0 : wr.cell? ⟨w.heap.size + 1, 0, none⟩ = some (.int .i64 L) := W99.out.cell 0
                have cW1 : wr.cell? ⟨w.heap.size + 1, 1, none⟩ = some (.int .i64 S) := W99.out.cell 1
                have cX0 : wr.cell? ⟨wc.heap.size, 0, none⟩ = some (.int .i64 H) := X99.out.cell 0
                have cX1 : wr.cell? ⟨wc.heap.size, 1, none⟩ = some (.int .i64 (it k)) := X99.out.cell 1
                go_wp2_with fail
                refine (HL0.out _ _ he).mono ?_
                rintro e v5 ⟨rfl, hb⟩
                clear cW0 cW1 cX0 cX1
                have B100 := Lib.hid (B99.out.trans (hb.mono B99.out.size))
                have E100 := Lib.hid (show Below wr.heap.size wr v5 from hb)
                have F100 := Lib.hid (F99.out.below hb F99.out.lt)
                have W100 := Lib.hid (W99.out.below hb W99.out.lt)
                have X100 := Lib.hid (X99.out.below hb X99.out.lt)
                have hz100 := B100.out.size
                clear hb B99 F99 W99 X99 hz99
                have hsF100 := F100.out.lt
                have hsW100 := W100.out.lt
                have hsX100 := X100.out.lt
                clear hsX99
                go_upto_region 22 with fail
                obtain ⟨u5, hbx⟩ : ∃ zz, zz = (v5.alloc (.cells #[.int .i64 H, .int .i64 (lchA H (it k) L S)] 38)).alloc (.cells #[.int .i64 L, .int .i64 (lchD H (it k) L S)] 24) := ⟨_, rfl⟩
                have NY : Blk u5 (v5.heap.size) 38 #[.int .i64 H, .int .i64 (lchA H (it k) L S)] := hbx ▸ ((Blk.new' rfl) |>.alloc _)
                have NV : Blk u5 (v5.heap.size + 1) 24 #[.int .i64 L, .int .i64 (lchD H (it k) L S)] := hbx ▸ ((Blk.new' (by simp)))
                have hb : Below v5.heap.size v5 u5 := by rw [hbx]; (repeat (first | exact Below.refl _ _ | exact below_alloc _ _ | refine Below.alloc ?_ (by simp; omega) _ | refine Below.alloc ?_ (by simp) _))
                rw [← hbx]
                clear hbx
                have B101 := Lib.hid (B100.out.trans (hb.mono B100.out.size))
                have E101 := Lib.hid (E100.out.trans (hb.mono E100.out.size))
                have F101 := Lib.hid (F100.out.below hb F100.out.lt)
                have W101 := Lib.hid (W100.out.below hb W100.out.lt)
                have X101 := Lib.hid (X100.out.below hb X100.out.lt)
                have hz101 := B101.out.size
                clear hb B100 E100 F100 W100 X100 hz100
                have hsF101 := F101.out.lt
                have hsW101 := W101.out.lt
                have hsX101 := X101.out.lt
                clear hsF100 hsW100 hsX100
                have Y101 := Lib.hid NY
                clear NY
                have hsY101 := Y101.out.lt
                have V101 := Lib.hid NV
                clear NV
                have hsV101 := V101.out.lt
                have cX0 : u5.cell? ⟨wc.heap.size, 0, none⟩ = some (.int .i64 H) := X101.out.cell 0
                have fX0 : u5.frozen? ⟨wc.heap.size, 0, none⟩ = false := X101.out.frozen 0
                have cX1 : u5.cell? ⟨wc.heap.size, 1, none⟩ = some (.int .i64 (it k)) := X101.out.cell 1
                have fX1 : u5.frozen? ⟨wc.heap.size, 1, none⟩ = false := X101.out.frozen 1
                have cY0 : u5.cell? ⟨v5.heap.size, 0, none⟩ = some (.int .i64 H) := Y101.out.cell 0
                have fY0 : u5.frozen? ⟨v5.heap.size, 0, none⟩ = false := Y101.out.frozen 0
                have cY1 : u5.cell? ⟨v5.heap.size, 1, none⟩ = some (.int .i64 (lchA H (it k) L S)) := Y101.out.cell 1
                have fY1 : u5.frozen? ⟨v5.heap.size, 1, none⟩ = false := Y101.out.frozen 1
                go_wp2_with fail
                go_roundw
                case rel => exact ⟨k + 1, false, _, _, by omega, by go_num, rfl, (X101.out.set_ 0 _).set_ 1 _, ((CR.out.trans (E101.out.mono CR.out.size)).setCell (by simp) _).setCell (by simp) _, fun _ => ⟨rfl, (HIT.out.2 k).symm, fun j hj' => (Nat.lt_succ_iff_lt_or_eq.1 hj').elim (hj j) (fun e => e ▸ he)⟩⟩
                case measure => first | (simp [intOf]; omega) | simp [intOf]
              · have cW0 : wr.cell? ⟨w.heap.size + 1, 0, none⟩ = some (.int .i64 L) := W99.out.cell 0
                have cW1 : wr.cell? ⟨w.heap.size + 1, 1, none⟩ = some (.int .i64 S) := W99.out.cell 1
                have cX0 : wr.cell? ⟨wc.heap.size, 0, none⟩ = some (.int .i64 H) := X99.out.cell 0
                have cX1 : wr.cell? ⟨wc.heap.size, 1, none⟩ = some (.int .i64 (it k)) := X99.out.cell 1
                go_wp2_with fail
                refine (HL1.out _ _ he).mono ?_
                rintro e v5 ⟨rfl, hb⟩
                clear cW0 cW1 cX0 cX1
                have B100 := Lib.hid (B99.out.trans (hb.mono B99.out.size))
                have E100 := Lib.hid (show Below wr.heap.size wr v5 from hb)
                have F100 := Lib.hid (F99.out.below hb F99.out.lt)
                have W100 := Lib.hid (W99.out.below hb W99.out.lt)
                have X100 := Lib.hid (X99.out.below hb X99.out.lt)
                have hz100 := B100.out.size
                clear hb B99 F99 W99 X99 hz99
                have hsF100 := F100.out.lt
                have hsW100 := W100.out.lt
                have hsX100 := X100.out.lt
                clear hsX99
                go_upto_region 22 with fail
                obtain ⟨u5, hbx⟩ : ∃ zz, zz = (v5.alloc (.cells #[.int .i64 0, .int .i64 0] 38)).alloc (.cells #[.int .i64 0, .int .i64 0] 24) := ⟨_, rfl⟩
                have NY : Blk u5 (v5.heap.size) 38 #[.int .i64 0, .int .i64 0] := hbx ▸ ((Blk.new' rfl) |>.alloc _)
                have NV : Blk u5 (v5.heap.size + 1) 24 #[.int .i64 0, .int .i64 0] := hbx ▸ ((Blk.new' (by simp)))
                have hb : Below v5.heap.size v5 u5 := by rw [hbx]; (repeat (first | exact Below.refl _ _ | exact below_alloc _ _ | refine Below.alloc ?_ (by simp; omega) _ | refine Below.alloc ?_ (by simp) _))
                rw [← hbx]
                clear hbx
                have B101 := Lib.hid (B100.out.trans (hb.mono B100.out.size))
                have E101 := Lib.hid (E100.out.trans (hb.mono E100.out.size))
                have F101 := Lib.hid (F100.out.below hb F100.out.lt)
                have W101 := Lib.hid (W100.out.below hb W100.out.lt)
                have X101 := Lib.hid (X100.out.below hb X100.out.lt)
                have hz101 := B101.out.size
                clear hb B100 E100 F100 W100 X100 hz100
                have hsF101 := F101.out.lt
                have hsW101 := W101.out.lt
                have hsX101 := X101.out.lt
                clear hsF100 hsW100 hsX100
                have Y101 := Lib.hid NY
                clear NY
                have hsY101 := Y101.out.lt
                have V101 := Lib.hid NV
                clear NV
                have hsV101 := V101.out.lt
                have cX0 : u5.cell? ⟨wc.heap.size, 0, none⟩ = some (.int .i64 H) := X101.out.cell 0
                have fX0 : u5.frozen? ⟨wc.heap.size, 0, none⟩ = false := X101.out.frozen 0
                have cX1 : u5.cell? ⟨wc.heap.size, 1, none⟩ = some (.int .i64 (it k)) := X101.out.cell 1
                have fX1 : u5.frozen? ⟨wc.heap.size, 1, none⟩ = false := X101.out.frozen 1
                have cY0 : u5.cell? ⟨v5.heap.size, 0, none⟩ = some (.int .i64 0) := Y101.out.cell 0
                have fY0 : u5.frozen? ⟨v5.heap.size, 0, none⟩ = false := Y101.out.frozen 0
                have cY1 : u5.cell? ⟨v5.heap.size, 1, none⟩ = some (.int .i64 0) := Y101.out.cell 1
                have fY1 : u5.frozen? ⟨v5.heap.size, 1, none⟩ = false := Y101.out.frozen 1
                go_wp2_with fail
                go_roundw
                case rel => exact ⟨k + 1, true, _, _, by omega, by go_num, rfl, (X101.out.set_ 0 _).set_ 1 _, ((CR.out.trans (E101.out.mono CR.out.size)).setCell (by simp) _).setCell (by simp) _, fun h => by cases h⟩
                case measure => first | (simp [intOf]; omega) | simp [intOf]
            · clear hq
              go_upto_region 17 with fail
              go_cut [115] (fun s115 wc => s115 = .bool false ∧ wc = wr)
              case first =>
                cases b with
                | true =>
                  go_wp2_with fail
                  · go_meet
                    case rel => exact ⟨rfl, rfl⟩
                  · go_meet
                    case rel => exact ⟨rfl, rfl⟩
                | false =>
                  have hle : decide ((k : Int) ≤ most) = false := by simp only [decide_eq_false_iff_not]; exact fun h => hgo ⟨by omega, rfl⟩
                  have hle2 : ¬ k ≤ most.toNat := fun h => hgo ⟨h, rfl⟩
                  have hle3 : most.toNat < k := by omega
                  go_wp2_with fail
                  go_meet
                  case rel => exact ⟨rfl, rfl⟩
              case rest =>
                obtain ⟨rfl, rfl⟩ := hcut
                go_wp2_with fail
                go_ret
                exact ⟨rfl, B99.out⟩
      | some n0 =>
        have tn : (n0 : Int) ≤ most := by have := HTL.out tm; omega
        have cF0 : u1.cell? ⟨w.heap.size, 0, none⟩ = some (.int .i64 H) := F4.out.cell 0
        have cF1 : u1.cell? ⟨w.heap.size, 1, none⟩ = some (.int .i64 D) := F4.out.cell 1
        have cW0 : u1.cell? ⟨w.heap.size + 1, 0, none⟩ = some (.int .i64 L) := W4.out.cell 0
        have cW1 : u1.cell? ⟨w.heap.size + 1, 1, none⟩ = some (.int .i64 S) := W4.out.cell 1
        have cG0 : u1.cell? ⟨v1.heap.size, 0, none⟩ = some (.int .i64 H) := G4.out.cell 0
        have cG1 : u1.cell? ⟨v1.heap.size, 1, none⟩ = some (.int .i64 (lchA H D L S)) := G4.out.cell 1
        have cR0 : u1.cell? ⟨v1.heap.size + 1, 0, none⟩ = some (.int .i64 L) := R4.out.cell 0
        have cR1 : u1.cell? ⟨v1.heap.size + 1, 1, none⟩ = some (.int .i64 (lchD H D L S)) := R4.out.cell 1
        go_wp2_with fail
        refine (HT4.out hE hT tm _).mono ?_
        rintro e v2 ⟨rfl, hb⟩
        clear cF0 cF1 cW0 cW1 cG0 cG1 cR0 cR1
        have B5 := Lib.hid (B4.out.trans (hb.mono B4.out.size))
        have F5 := Lib.hid (F4.out.below hb F4.out.lt)
        have W5 := Lib.hid (W4.out.below hb W4.out.lt)
        have G5 := Lib.hid (G4.out.below hb G4.out.lt)
        have R5 := Lib.hid (R4.out.below hb R4.out.lt)
        have hz5 := B5.out.size
        clear hb B4 F4 W4 G4 R4 hz4
        have hsF5 := F5.out.lt
        have hsW5 := W5.out.lt
        have hsG5 := G5.out.lt
        have hsR5 := R5.out.lt
        clear hsF4 hsW4 hsG4 hsR4
        have cF0 : v2.cell? ⟨w.heap.size, 0, none⟩ = some (.int .i64 H) := F5.out.cell 0
        have cF1 : v2.cell? ⟨w.heap.size, 1, none⟩ = some (.int .i64 D) := F5.out.cell 1
        have cW0 : v2.cell? ⟨w.heap.size + 1, 0, none⟩ = some (.int .i64 L) := W5.out.cell 0
        have cW1 : v2.cell? ⟨w.heap.size + 1, 1, none⟩ = some (.int .i64 S) := W5.out.cell 1
        have cG0 : v2.cell? ⟨v1.heap.size, 0, none⟩ = some (.int .i64 H) := G5.out.cell 0
        have cG1 : v2.cell? ⟨v1.heap.size, 1, none⟩ = some (.int .i64 (lchA H D L S)) := G5.out.cell 1
        go_upto_region 7 with fail
        have m1 := mul_range z7 z8 (show 0 ≤ H by omega) z2
        have m2 := mul_range z3 z4 z5 z6
        have hw1 : IntKind.i64.wrap (S * H) = S * H := IntWalk.i64_in _ ⟨by omega, by omega⟩
        have hw2 : IntKind.i64.wrap (D * L) = D * L := IntWalk.i64_in _ ⟨by omega, by omega⟩
        go_cut [77] (fun s77 wc => s77 = .bool false ∧ wc = v2)
        case first =>
          by_cases hs : S * H ≤ D * L
          · have hg := z9 hs
            have hs1 : decide (S * H ≤ D * L) = true := by simpa using hs
            have hg1 : decide (D < lchA H D L S) = false := by simp; omega
            go_wp2_with fail
            go_meet
            case rel => exact ⟨rfl, rfl⟩
          · have hs1 : decide (S * H ≤ D * L) = false := by simpa using hs
            go_wp2_with fail
            go_meet
            case rel => exact ⟨rfl, rfl⟩
        case rest =>
          obtain ⟨rfl, rfl⟩ := hcut
          clear m1 m2 hw1 hw2 z9
          clear cF0 cF1 cW0 cW1 cG0 cG1
          have cF0 : wc.cell? ⟨w.heap.size, 0, none⟩ = some (.int .i64 H) := F5.out.cell 0
          have cF1 : wc.cell? ⟨w.heap.size, 1, none⟩ = some (.int .i64 D) := F5.out.cell 1
          go_upto_region 16 with fail
          have BB := Lib.hid B5.out
          have FF := Lib.hid F5.out
          have WW := Lib.hid W5.out
          clear cF0 cF1
          obtain ⟨u3, hbx⟩ : ∃ zz, zz = wc.alloc (.cells #[.int .i64 H, .int .i64 D] 38) := ⟨_, rfl⟩
          have NX : Blk u3 (wc.heap.size) 38 #[.int .i64 H, .int .i64 D] := hbx ▸ ((Blk.new' rfl))
          have hb : Below wc.heap.size wc u3 := by rw [hbx]; (repeat (first | exact Below.refl _ _ | exact below_alloc _ _ | refine Below.alloc ?_ (by simp; omega) _ | refine Below.alloc ?_ (by simp) _))
          rw [← hbx]
          clear hbx
          have B6 := Lib.hid (B5.out.trans (hb.mono B5.out.size))
          have C6 := Lib.hid (show Below wc.heap.size wc u3 from hb)
          have F6 := Lib.hid (F5.out.below hb F5.out.lt)
          have W6 := Lib.hid (W5.out.below hb W5.out.lt)
          have G6 := Lib.hid (G5.out.below hb G5.out.lt)
          have R6 := Lib.hid (R5.out.below hb R5.out.lt)
          have hz6 := B6.out.size
          clear hb B5 F5 W5 G5 R5 hz5
          have hsF6 := F6.out.lt
          have hsW6 := W6.out.lt
          have hsG6 := G6.out.lt
          have hsR6 := R6.out.lt
          clear hsF5 hsW5 hsG5 hsR5
          have X6 := Lib.hid NX
          clear NX
          have hsX6 := X6.out.lt
          go_wp2_with fail
          go_loopw [20, 21] (fun ls i wr => ∃ (k : Nat) (b : Bool) (p q : Int), k ≤ n0 + 1 ∧ i = .int .i64 k ∧ ls = .bool b ∧ Blk wr (wc.heap.size) 38 #[.int .i64 p, .int .i64 q] ∧ Below wc.heap.size wc wr ∧ (b = false → p = H ∧ q = it k ∧ ∀ j, j < k → lchE H (it j) L S = 0)) (fun _ i _ => n0 + 1 - (intOf i).toNat)
          case atStart => exact ⟨0, false, H, D, by omega, rfl, rfl, X6.out, C6.out, fun _ => ⟨rfl, HIT.out.1.symm, fun j hj => absurd hj (by omega)⟩⟩
          case round =>
            obtain ⟨k, b, p, q, hk, rfl, rfl, hx, hb, hq⟩ := hrel
            have CR := Lib.hid hb
            have hcr := CR.out.size
            have B99 := Lib.hid (BB.out.trans (CR.out.mono BB.out.size))
            have F99 := Lib.hid (FF.out.below CR.out FF.out.lt)
            have W99 := Lib.hid (WW.out.below CR.out WW.out.lt)
            have X99 := Lib.hid hx
            clear hb hx
            have hz99 := B99.out.size
            have hsX99 := X99.out.lt
            have hkb : k ≤ 401 := by omega
            by_cases hgo : k ≤ n0 ∧ b = false
            · obtain ⟨hkn, rfl⟩ := hgo
              obtain ⟨e1, e2, hj⟩ := hq rfl
              subst e2
              have e1 := e1.symm
              subst e1
              obtain ⟨f1, f2⟩ := HLS.out tm k hkn hj
              have hki : (k : Int) ≤ n0 := by omega
              by_cases hkn0 : k = n0
              · subst hkn0
                have f3 : decide (it k ≤ lim) = true := by simpa using f1.2 ⟨trivial, by first | rfl | trivial⟩
                by_cases he : lchE H (it k) L S = 0
                · have cW0 : wr.cell? ⟨w.heap.size + 1, 0, none⟩ = some (.int .i64 L) := W99.out.cell 0
                  have cW1 : wr.cell? ⟨w.heap.size + 1, 1, none⟩ = some (.int .i64 S) := W99.out.cell 1
                  have cX0 : wr.cell? ⟨wc.heap.size, 0, none⟩ = some (.int .i64 H) := X99.out.cell 0
                  have cX1 : wr.cell? ⟨wc.heap.size, 1, none⟩ = some (.int .i64 (it k)) := X99.out.cell 1
                  go_wp2_with fail
                  refine (HL0.out _ _ he).mono ?_
                  rintro e v5 ⟨rfl, hb⟩
                  clear cW0 cW1 cX0 cX1
                  have B100 := Lib.hid (B99.out.trans (hb.mono B99.out.size))
                  have E100 := Lib.hid (show Below wr.heap.size wr v5 from hb)
                  have F100 := Lib.hid (F99.out.below hb F99.out.lt)
                  have W100 := Lib.hid (W99.out.below hb W99.out.lt)
                  have X100 := Lib.hid (X99.out.below hb X99.out.lt)
                  have hz100 := B100.out.size
                  clear hb B99 F99 W99 X99 hz99
                  have hsF100 := F100.out.lt
                  have hsW100 := W100.out.lt
                  have hsX100 := X100.out.lt
                  clear hsX99
                  go_upto_region 22 with fail
                  obtain ⟨u5, hbx⟩ : ∃ zz, zz = (v5.alloc (.cells #[.int .i64 H, .int .i64 (lchA H (it k) L S)] 38)).alloc (.cells #[.int .i64 L, .int .i64 (lchD H (it k) L S)] 24) := ⟨_, rfl⟩
                  have NY : Blk u5 (v5.heap.size) 38 #[.int .i64 H, .int .i64 (lchA H (it k) L S)] := hbx ▸ ((Blk.new' rfl) |>.alloc _)
                  have NV : Blk u5 (v5.heap.size + 1) 24 #[.int .i64 L, .int .i64 (lchD H (it k) L S)] := hbx ▸ ((Blk.new' (by simp)))
                  have hb : Below v5.heap.size v5 u5 := by rw [hbx]; (repeat (first | exact Below.refl _ _ | exact below_alloc _ _ | refine Below.alloc ?_ (by simp; omega) _ | refine Below.alloc ?_ (by simp) _))
                  rw [← hbx]
                  clear hbx
                  have B101 := Lib.hid (B100.out.trans (hb.mono B100.out.size))
                  have E101 := Lib.hid (E100.out.trans (hb.mono E100.out.size))
                  have F101 := Lib.hid (F100.out.below hb F100.out.lt)
                  have W101 := Lib.hid (W100.out.below hb W100.out.lt)
                  have X101 := Lib.hid (X100.out.below hb X100.out.lt)
                  have hz101 := B101.out.size
                  clear hb B100 E100 F100 W100 X100 hz100
                  have hsF101 := F101.out.lt
                  have hsW101 := W101.out.lt
                  have hsX101 := X101.out.lt
                  clear hsF100 hsW100 hsX100
                  have Y101 := Lib.hid NY
                  clear NY
                  have hsY101 := Y101.out.lt
                  have V101 := Lib.hid NV
                  clear NV
                  have hsV101 := V101.out.lt
                  have cX0 : u5.cell? ⟨wc.heap.size, 0, none⟩ = some (.int .i64 H) := X101.out.cell 0
                  have fX0 : u5.frozen? ⟨wc.heap.size, 0, none⟩ = false := X101.out.frozen 0
                  have cX1 : u5.cell? ⟨wc.heap.size, 1, none⟩ = some (.int .i64 (it k)) := X101.out.cell 1
                  have fX1 : u5.frozen? ⟨wc.heap.size, 1, none⟩ = false := X101.out.frozen 1
                  have cY0 : u5.cell? ⟨v5.heap.size, 0, none⟩ = some (.int .i64 H) := Y101.out.cell 0
                  have fY0 : u5.frozen? ⟨v5.heap.size, 0, none⟩ = false := Y101.out.frozen 0
                  have cY1 : u5.cell? ⟨v5.heap.size, 1, none⟩ = some (.int .i64 (lchA H (it k) L S)) := Y101.out.cell 1
                  have fY1 : u5.frozen? ⟨v5.heap.size, 1, none⟩ = false := Y101.out.frozen 1
                  go_wp2_with fail
                  go_roundw
                  case rel => exact ⟨k + 1, false, _, _, by omega, by go_num, rfl, (X101.out.set_ 0 _).set_ 1 _, ((CR.out.trans (E101.out.mono CR.out.size)).setCell (by simp) _).setCell (by simp) _, fun _ => ⟨rfl, (HIT.out.2 k).symm, fun j hj' => (Nat.lt_succ_iff_lt_or_eq.1 hj').elim (hj j) (fun e => e ▸ he)⟩⟩
                  case measure => first | (simp [intOf]; omega) | simp [intOf]
                · have cW0 : wr.cell? ⟨w.heap.size + 1, 0, none⟩ = some (.int .i64 L) := W99.out.cell 0
                  have cW1 : wr.cell? ⟨w.heap.size + 1, 1, none⟩ = some (.int .i64 S) := W99.out.cell 1
                  have cX0 : wr.cell? ⟨wc.heap.size, 0, none⟩ = some (.int .i64 H) := X99.out.cell 0
                  have cX1 : wr.cell? ⟨wc.heap.size, 1, none⟩ = some (.int .i64 (it k)) := X99.out.cell 1
                  go_wp2_with fail
                  refine (HL1.out _ _ he).mono ?_
                  rintro e v5 ⟨rfl, hb⟩
                  clear cW0 cW1 cX0 cX1
                  have B100 := Lib.hid (B99.out.trans (hb.mono B99.out.size))
                  have E100 := Lib.hid (show Below wr.heap.size wr v5 from hb)
                  have F100 := Lib.hid (F99.out.below hb F99.out.lt)
                  have W100 := Lib.hid (W99.out.below hb W99.out.lt)
                  have X100 := Lib.hid (X99.out.below hb X99.out.lt)
                  have hz100 := B100.out.size
                  clear hb B99 F99 W99 X99 hz99
                  have hsF100 := F100.out.lt
                  have hsW100 := W100.out.lt
                  have hsX100 := X100.out.lt
                  clear hsX99
                  go_upto_region 22 with fail
                  obtain ⟨u5, hbx⟩ : ∃ zz, zz = (v5.alloc (.cells #[.int .i64 0, .int .i64 0] 38)).alloc (.cells #[.int .i64 0, .int .i64 0] 24) := ⟨_, rfl⟩
                  have NY : Blk u5 (v5.heap.size) 38 #[.int .i64 0, .int .i64 0] := hbx ▸ ((Blk.new' rfl) |>.alloc _)
                  have NV : Blk u5 (v5.heap.size + 1) 24 #[.int .i64 0, .int .i64 0] := hbx ▸ ((Blk.new' (by simp)))
                  have hb : Below v5.heap.size v5 u5 := by rw [hbx]; (repeat (first | exact Below.refl _ _ | exact below_alloc _ _ | refine Below.alloc ?_ (by simp; omega) _ | refine Below.alloc ?_ (by simp) _))
                  rw [← hbx]
                  clear hbx
                  have B101 := Lib.hid (B100.out.trans (hb.mono B100.out.size))
                  have E101 := Lib.hid (E100.out.trans (hb.mono E100.out.size))
                  have F101 := Lib.hid (F100.out.below hb F100.out.lt)
                  have W101 := Lib.hid (W100.out.below hb W100.out.lt)
                  have X101 := Lib.hid (X100.out.below hb X100.out.lt)
                  have hz101 := B101.out.size
                  clear hb B100 E100 F100 W100 X100 hz100
                  have hsF101 := F101.out.lt
                  have hsW101 := W101.out.lt
                  have hsX101 := X101.out.lt
                  clear hsF100 hsW100 hsX100
                  have Y101 := Lib.hid NY
                  clear NY
                  have hsY101 := Y101.out.lt
                  have V101 := Lib.hid NV
                  clear NV
                  have hsV101 := V101.out.lt
                  have cX0 : u5.cell? ⟨wc.heap.size, 0, none⟩ = some (.int .i64 H) := X101.out.cell 0
                  have fX0 : u5.frozen? ⟨wc.heap.size, 0, none⟩ = false := X101.out.frozen 0
                  have cX1 : u5.cell? ⟨wc.heap.size, 1, none⟩ = some (.int .i64 (it k)) := X101.out.cell 1
                  have fX1 : u5.frozen? ⟨wc.heap.size, 1, none⟩ = false := X101.out.frozen 1
                  have cY0 : u5.cell? ⟨v5.heap.size, 0, none⟩ = some (.int .i64 0) := Y101.out.cell 0
                  have fY0 : u5.frozen? ⟨v5.heap.size, 0, none⟩ = false := Y101.out.frozen 0
                  have cY1 : u5.cell? ⟨v5.heap.size, 1, none⟩ = some (.int .i64 0) := Y101.out.cell 1
                  have fY1 : u5.frozen? ⟨v5.heap.size, 1, none⟩ = false := Y101.out.frozen 1
                  go_wp2_with fail
                  go_roundw
                  case rel => exact ⟨k + 1, true, _, _, by omega, by go_num, rfl, (X101.out.set_ 0 _).set_ 1 _, ((CR.out.trans (E101.out.mono CR.out.size)).setCell (by simp) _).setCell (by simp) _, fun h => by cases h⟩
                  case measure => first | (simp [intOf]; omega) | simp [intOf]
              · have hkl : (k : Int) < n0 := by omega
                have hke : ((k : Int) == n0) = false := by simp; omega
                have f3 : decide (it k ≤ lim) = false := by simp only [decide_eq_false_iff_not]; exact fun h => hkn0 (f1.1 h).2
                have he : lchE H (it k) L S = 0 := Decidable.not_not.1 fun h => f2 h ⟨trivial, by omega⟩
                have cW0 : wr.cell? ⟨w.heap.size + 1, 0, none⟩ = some (.int .i64 L) := W99.out.cell 0
                have cW1 : wr.cell? ⟨w.heap.size + 1, 1, none⟩ = some (.int .i64 S) := W99.out.cell 1
                have cX0 : wr.cell? ⟨wc.heap.size, 0, none⟩ = some (.int .i64 H) := X99.out.cell 0
                have cX1 : wr.cell? ⟨wc.heap.size, 1, none⟩ = some (.int .i64 (it k)) := X99.out.cell 1
                go_wp2_with fail
                refine (HL0.out _ _ he).mono ?_
                rintro e v5 ⟨rfl, hb⟩
                clear cW0 cW1 cX0 cX1
                have B100 := Lib.hid (B99.out.trans (hb.mono B99.out.size))
                have E100 := Lib.hid (show Below wr.heap.size wr v5 from hb)
                have F100 := Lib.hid (F99.out.below hb F99.out.lt)
                have W100 := Lib.hid (W99.out.below hb W99.out.lt)
                have X100 := Lib.hid (X99.out.below hb X99.out.lt)
                have hz100 := B100.out.size
                clear hb B99 F99 W99 X99 hz99
                have hsF100 := F100.out.lt
                have hsW100 := W100.out.lt
                have hsX100 := X100.out.lt
                clear hsX99
                go_upto_region 22 with fail
                obtain ⟨u5, hbx⟩ : ∃ zz, zz = (v5.alloc (.cells #[.int .i64 H, .int .i64 (lchA H (it k) L S)] 38)).alloc (.cells #[.int .i64 L, .int .i64 (lchD H (it k) L S)] 24) := ⟨_, rfl⟩
                have NY : Blk u5 (v5.heap.size) 38 #[.int .i64 H, .int .i64 (lchA H (it k) L S)] := hbx ▸ ((Blk.new' rfl) |>.alloc _)
                have NV : Blk u5 (v5.heap.size + 1) 24 #[.int .i64 L, .int .i64 (lchD H (it k) L S)] := hbx ▸ ((Blk.new' (by simp)))
                have hb : Below v5.heap.size v5 u5 := by rw [hbx]; (repeat (first | exact Below.refl _ _ | exact below_alloc _ _ | refine Below.alloc ?_ (by simp; omega) _ | refine Below.alloc ?_ (by simp) _))
                rw [← hbx]
                clear hbx
                have B101 := Lib.hid (B100.out.trans (hb.mono B100.out.size))
                have E101 := Lib.hid (E100.out.trans (hb.mono E100.out.size))
                have F101 := Lib.hid (F100.out.below hb F100.out.lt)
                have W101 := Lib.hid (W100.out.below hb W100.out.lt)
                have X101 := Lib.hid (X100.out.below hb X100.out.lt)
                have hz101 := B101.out.size
                clear hb B100 E100 F100 W100 X100 hz100
                have hsF101 := F101.out.lt
                have hsW101 := W101.out.lt
                have hsX101 := X101.out.lt
                clear hsF100 hsW100 hsX100
                have Y101 := Lib.hid NY
                clear NY
                have hsY101 := Y101.out.lt
                have V101 := Lib.hid NV
                clear NV
                have hsV101 := V101.out.lt
                have cX0 : u5.cell? ⟨wc.heap.size, 0, none⟩ = some (.int .i64 H) := X101.out.cell 0
                have fX0 : u5.frozen? ⟨wc.heap.size, 0, none⟩ = false := X101.out.frozen 0
                have cX1 : u5.cell? ⟨wc.heap.size, 1, none⟩ = some (.int .i64 (it k)) := X101.out.cell 1
                have fX1 : u5.frozen? ⟨wc.heap.size, 1, none⟩ = false := X101.out.frozen 1
                have cY0 : u5.cell? ⟨v5.heap.size, 0, none⟩ = some (.int .i64 H) := Y101.out.cell 0
                have fY0 : u5.frozen? ⟨v5.heap.size, 0, none⟩ = false := Y101.out.frozen 0
                have cY1 : u5.cell? ⟨v5.heap.size, 1, none⟩ = some (.int .i64 (lchA H (it k) L S)) := Y101.out.cell 1
                have fY1 : u5.frozen? ⟨v5.heap.size, 1, none⟩ = false := Y101.out.frozen 1
                go_wp2_with fail
                go_roundw
                case rel => exact ⟨k + 1, false, _, _, by omega, by go_num, rfl, (X101.out.set_ 0 _).set_ 1 _, ((CR.out.trans (E101.out.mono CR.out.size)).setCell (by simp) _).setCell (by simp) _, fun _ => ⟨rfl, (HIT.out.2 k).symm, fun j hj' => (Nat.lt_succ_iff_lt_or_eq.1 hj').elim (hj j) (fun e => e ▸ he)⟩⟩
                case measure => first | (simp [intOf]; omega) | simp [intOf]
            · clear hq
              go_upto_region 17 with fail
              go_cut [115] (fun s115 wc => s115 = .bool false ∧ wc = wr)
              case first =>
                cases b with
                | true =>
                  go_wp2_with fail
                  · go_meet
                    case rel => exact ⟨rfl, rfl⟩
                  · go_meet
                    case rel => exact ⟨rfl, rfl⟩
                | false =>
                  have hle : decide ((k : Int) ≤ n0) = false := by simp only [decide_eq_false_iff_not]; exact fun h => hgo ⟨by omega, rfl⟩
                  have hle2 : ¬ k ≤ n0 := fun h => hgo ⟨h, rfl⟩
                  have hle3 : n0 < k := by omega
                  go_wp2_with fail
                  go_meet
                  case rel => exact ⟨rfl, rfl⟩
              case rest =>
                obtain ⟨rfl, rfl⟩ := hcut
                obtain ⟨m, hmn, HT6⟩ := HT5.out hE hT tm
                have HT6 := Lib.hid HT6
                have hmn' : (m : Int) ≤ n0 := by omega
                have hw3 : IntKind.i64.wrap (D - less) = D - less := IntWalk.i64_in _ ⟨by omega, by omega⟩
                have hw4 : IntKind.i64.wrap (lim + more) = lim + more := IntWalk.i64_in _ ⟨by omega, by omega⟩
                have cF0 : wc.cell? ⟨w.heap.size, 0, none⟩ = some (.int .i64 H) := F99.out.cell 0
                have cF1 : wc.cell? ⟨w.heap.size, 1, none⟩ = some (.int .i64 D) := F99.out.cell 1
                have hsw0 := W99.out.lt
                have hsb0 := B99.out.size
                go_upto_region 29 with fail
                clear cF0 cF1
                obtain ⟨u7, hbx⟩ : ∃ zz, zz = wc.alloc (.cells #[.int .i64 H, .int .i64 D] 38) := ⟨_, rfl⟩
                have NU : Blk u7 (wc.heap.size) 38 #[.int .i64 H, .int .i64 D] := hbx ▸ ((Blk.new' rfl))
                have hb : Below wc.heap.size wc u7 := by rw [hbx]; (repeat (first | exact Below.refl _ _ | exact below_alloc _ _ | refine Below.alloc ?_ (by simp; omega) _ | refine Below.alloc ?_ (by simp) _))
                rw [← hbx]
                clear hbx
                have B100 := Lib.hid (B99.out.trans (hb.mono B99.out.size))
                have F100 := Lib.hid (F99.out.below hb F99.out.lt)
                have W100 := Lib.hid (W99.out.below hb W99.out.lt)
                have hz100 := B100.out.size
                clear hb B99 F99 W99 hz99
                have hsF100 := F100.out.lt
                have hsW100 := W100.out.lt
                clear hsX99
                have U100 := Lib.hid NU
                clear NU
                have hsU100 := U100.out.lt
                have cF0 : u7.cell? ⟨w.heap.size, 0, none⟩ = some (.int .i64 H) := F100.out.cell 0
                have cF1 : u7.cell? ⟨w.heap.size, 1, none⟩ = some (.int .i64 D) := F100.out.cell 1
                have cU0 : u7.cell? ⟨wc.heap.size, 0, none⟩ = some (.int .i64 H) := U100.out.cell 0
                have fU0 : u7.frozen? ⟨wc.heap.size, 0, none⟩ = false := U100.out.frozen 0
                have cU1 : u7.cell? ⟨wc.heap.size, 1, none⟩ = some (.int .i64 D) := U100.out.cell 1
                have fU1 : u7.frozen? ⟨wc.heap.size, 1, none⟩ = false := U100.out.frozen 1
                go_upto_region 29 with fail
                go_cut [] (fun wx => wx = u7.setCell ⟨wc.heap.size, 1, none⟩ (.int .i64 (max 0 (D - less))))
                case first =>
                  by_cases hd : less < D
                  · have hmx : max 0 (D - less) = D - less := by omega
                    go_wp2_with fail
                    go_meet
                    case rel => rw [hmx]
                  · have hmx : max 0 (D - less) = 0 := by omega
                    go_wp2_with fail
                    go_meet
                    case rel => rw [hmx]
                case rest =>
                  subst hcut
                  clear cF0 cF1 cU0 fU0 cU1 fU1
                  have U101 := Lib.hid (U100.out.set_ 1 (.int .i64 (max 0 (D - less))))
                  have W101 := Lib.hid (W100.out.far (p := ⟨wc.heap.size, 1, none⟩) (by simp; omega) (.int .i64 (max 0 (D - less))))
                  have B101 := Lib.hid (B100.out.setCell (p := ⟨wc.heap.size, 1, none⟩) (by simp; omega) (.int .i64 (max 0 (D - less))))
                  generalize u7.setCell ⟨wc.heap.size, 1, none⟩ (.int .i64 (max 0 (D - less))) = u8 at U101 W101 B101 ⊢
                  generalize max 0 (D - less) = D' at U101 HT6 ⊢
                  have cU0 : u8.cell? ⟨wc.heap.size, 0, none⟩ = some (.int .i64 H) := U101.out.cell 0
                  have cU1 : u8.cell? ⟨wc.heap.size, 1, none⟩ = some (.int .i64 D') := U101.out.cell 1
                  have cW0 : u8.cell? ⟨w.heap.size + 1, 0, none⟩ = some (.int .i64 L) := W101.out.cell 0
                  have cW1 : u8.cell? ⟨w.heap.size + 1, 1, none⟩ = some (.int .i64 S) := W101.out.cell 1
                  by_cases hl : lim + more < 1073741824
                  · have hmn2 : min 1073741824 (lim + more) = lim + more := by omega
                    rw [hmn2] at HT6
                    clear hmn2
                    go_wp2_with fail
                    refine (HT6.out _).mono ?_
                    rintro e w9 ⟨rfl, hb9⟩
                    go_wp2_with fail
                    go_ret
                    exact ⟨rfl, B101.out.trans (hb9.mono B101.out.size)⟩
                  · have hmn2 : min 1073741824 (lim + more) = 1073741824 := by omega
                    rw [hmn2] at HT6
                    clear hmn2
                    go_wp2_with fail
                    refine (HT6.out _).mono ?_
                    rintro e w9 ⟨rfl, hb9⟩
                    go_wp2_with fail
                    go_ret
                    exact ⟨rfl, B101.out.trans (hb9.mono B101.out.size)⟩
    · have cF0 : u1.cell? ⟨w.heap.size, 0, none⟩ = some (.int .i64 H) := F4.out.cell 0
      have cF1 : u1.cell? ⟨w.heap.size, 1, none⟩ = some (.int .i64 D) := F4.out.cell 1
      have cW0 : u1.cell? ⟨w.heap.size + 1, 0, none⟩ = some (.int .i64 L) := W4.out.cell 0
      have cW1 : u1.cell? ⟨w.heap.size + 1, 1, none⟩ = some (.int .i64 S) := W4.out.cell 1
      have cG0 : u1.cell? ⟨v1.heap.size, 0, none⟩ = some (.int .i64 H) := G4.out.cell 0
      have cG1 : u1.cell? ⟨v1.heap.size, 1, none⟩ = some (.int .i64 (lchA H D L S)) := G4.out.cell 1
      have cR0 : u1.cell? ⟨v1.heap.size + 1, 0, none⟩ = some (.int .i64 L) := R4.out.cell 0
      have cR1 : u1.cell? ⟨v1.heap.size + 1, 1, none⟩ = some (.int .i64 (lchD H D L S)) := R4.out.cell 1
      go_wp2_with fail
      refine (HT2.out hE hT _).mono ?_
      rintro e v2 ⟨rfl, hb⟩
      clear cF0 cF1 cW0 cW1 cG0 cG1 cR0 cR1
      have B5 := Lib.hid (B4.out.trans (hb.mono B4.out.size))
      have F5 := Lib.hid (F4.out.below hb F4.out.lt)
      have W5 := Lib.hid (W4.out.below hb W4.out.lt)
      have G5 := Lib.hid (G4.out.below hb G4.out.lt)
      have R5 := Lib.hid (R4.out.below hb R4.out.lt)
      have hz5 := B5.out.size
      clear hb B4 F4 W4 G4 R4 hz4
      have hsF5 := F5.out.lt
      have hsW5 := W5.out.lt
      have hsG5 := G5.out.lt
      have hsR5 := R5.out.lt
      clear hsF4 hsW4 hsG4 hsR4
      have cF0 : v2.cell? ⟨w.heap.size, 0, none⟩ = some (.int .i64 H) := F5.out.cell 0
      have cF1 : v2.cell? ⟨w.heap.size, 1, none⟩ = some (.int .i64 D) := F5.out.cell 1
      have cW0 : v2.cell? ⟨w.heap.size + 1, 0, none⟩ = some (.int .i64 L) := W5.out.cell 0
      have cW1 : v2.cell? ⟨w.heap.size + 1, 1, none⟩ = some (.int .i64 S) := W5.out.cell 1
      have cG0 : v2.cell? ⟨v1.heap.size, 0, none⟩ = some (.int .i64 H) := G5.out.cell 0
      have cG1 : v2.cell? ⟨v1.heap.size, 1, none⟩ = some (.int .i64 (lchA H D L S)) := G5.out.cell 1
      go_upto_region 7 with fail
      have m1 := mul_range z7 z8 (show 0 ≤ H by omega) z2
      have m2 := mul_range z3 z4 z5 z6
      have hw1 : IntKind.i64.wrap (S * H) = S * H := IntWalk.i64_in _ ⟨by omega, by omega⟩
      have hw2 : IntKind.i64.wrap (D * L) = D * L := IntWalk.i64_in _ ⟨by omega, by omega⟩
      go_cut [77] (fun s77 wc => s77 = .bool false ∧ wc = v2)
      case first =>
        by_cases hs : S * H ≤ D * L
        · have hg := z9 hs
          have hs1 : decide (S * H ≤ D * L) = true := by simpa using hs
          have hg1 : decide (D < lchA H D L S) = false := by simp; omega
          go_wp2_with fail
          go_meet
          case rel => exact ⟨rfl, rfl⟩
        · have hs1 : decide (S * H ≤ D * L) = false := by simpa using hs
          go_wp2_with fail
          go_meet
          case rel => exact ⟨rfl, rfl⟩
      case rest =>
        obtain ⟨rfl, rfl⟩ := hcut
        clear m1 m2 hw1 hw2 z9
        clear cF0 cF1 cW0 cW1 cG0 cG1
        go_wp2_with fail
        go_ret
        exact ⟨rfl, B5.out⟩
  · have cF0 : v0.cell? ⟨w.heap.size, 0, none⟩ = some (.int .i64 H) := F2.out.cell 0
    have cF1 : v0.cell? ⟨w.heap.size, 1, none⟩ = some (.int .i64 D) := F2.out.cell 1
    have cW0 : v0.cell? ⟨w.heap.size + 1, 0, none⟩ = some (.int .i64 L) := W2.out.cell 0
    have cW1 : v0.cell? ⟨w.heap.size + 1, 1, none⟩ = some (.int .i64 S) := W2.out.cell 1
    go_wp2_with fail
    refine (HL1.out _ _ hE).mono ?_
    rintro e v1 ⟨rfl, hb⟩
    clear cF0 cF1 cW0 cW1
    have B3 := Lib.hid (B2.out.trans (hb.mono B2.out.size))
    have F3 := Lib.hid (F2.out.below hb F2.out.lt)
    have W3 := Lib.hid (W2.out.below hb W2.out.lt)
    have hz3 := B3.out.size
    clear hb B2 F2 W2 hz2
    have hsF3 := F3.out.lt
    have hsW3 := W3.out.lt
    clear hsF2 hsW2
    go_upto_region 4 with fail
    obtain ⟨u1, hbx⟩ : ∃ zz, zz = (v1.alloc (.cells #[.int .i64 0, .int .i64 0] 38)).alloc (.cells #[.int .i64 0, .int .i64 0] 24) := ⟨_, rfl⟩
    have NG : Blk u1 (v1.heap.size) 38 #[.int .i64 0, .int .i64 0] := hbx ▸ ((Blk.new' rfl) |>.alloc _)
    have NR : Blk u1 (v1.heap.size + 1) 24 #[.int .i64 0, .int .i64 0] := hbx ▸ ((Blk.new' (by simp)))
    have hb : Below v1.heap.size v1 u1 := by rw [hbx]; (repeat (first | exact Below.refl _ _ | exact below_alloc _ _ | refine Below.alloc ?_ (by simp; omega) _ | refine Below.alloc ?_ (by simp) _))
    rw [← hbx]
    clear hbx
    have B4 := Lib.hid (B3.out.trans (hb.mono B3.out.size))
    have F4 := Lib.hid (F3.out.below hb F3.out.lt)
    have W4 := Lib.hid (W3.out.below hb W3.out.lt)
    have hz4 := B4.out.size
    clear hb B3 F3 W3 hz3
    have hsF4 := F4.out.lt
    have hsW4 := W4.out.lt
    clear hsF3 hsW3
    have G4 := Lib.hid NG
    clear NG
    have hsG4 := G4.out.lt
    have R4 := Lib.hid NR
    clear NR
    have hsR4 := R4.out.lt
    have cF0 : u1.cell? ⟨w.heap.size, 0, none⟩ = some (.int .i64 H) := F4.out.cell 0
    have cF1 : u1.cell? ⟨w.heap.size, 1, none⟩ = some (.int .i64 D) := F4.out.cell 1
    have cW0 : u1.cell? ⟨w.heap.size + 1, 0, none⟩ = some (.int .i64 L) := W4.out.cell 0
    have cW1 : u1.cell? ⟨w.heap.size + 1, 1, none⟩ = some (.int .i64 S) := W4.out.cell 1
    have cG0 : u1.cell? ⟨v1.heap.size, 0, none⟩ = some (.int .i64 0) := G4.out.cell 0
    have cG1 : u1.cell? ⟨v1.heap.size, 1, none⟩ = some (.int .i64 0) := G4.out.cell 1
    have cR0 : u1.cell? ⟨v1.heap.size + 1, 0, none⟩ = some (.int .i64 0) := R4.out.cell 0
    have cR1 : u1.cell? ⟨v1.heap.size + 1, 1, none⟩ = some (.int .i64 0) := R4.out.cell 1
    go_wp2_with fail
    refine (HT1.out hE _).mono ?_
    rintro e v2 ⟨rfl, hb⟩
    clear cF0 cF1 cW0 cW1 cG0 cG1 cR0 cR1
    have B5 := Lib.hid (B4.out.trans (hb.mono B4.out.size))
    have F5 := Lib.hid (F4.out.below hb F4.out.lt)
    have W5 := Lib.hid (W4.out.below hb W4.out.lt)
    have G5 := Lib.hid (G4.out.below hb G4.out.lt)
    have R5 := Lib.hid (R4.out.below hb R4.out.lt)
    have hz5 := B5.out.size
    clear hb B4 F4 W4 G4 R4 hz4
    have hsF5 := F5.out.lt
    have hsW5 := W5.out.lt
    have hsG5 := G5.out.lt
    have hsR5 := R5.out.lt
    clear hsF4 hsW4 hsG4 hsR4
    go_wp2_with fail
    go_ret
    exact ⟨rfl, B5.out⟩
end Go.Proofs.Ythmebjbaigiehaa
