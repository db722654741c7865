/- Contract of the reference's Turns. No condition. -/
import Derived.Test.YthmebjbaigiehaaTurns
import Derived.Test.YthmebjbaigiehaaRefLeach
namespace Go.Proofs.Ythmebjbaigiehaa
open Go.RowKit

set_option maxRecDepth 100000 in
set_option maxHeartbeats 4000000 in
theorem ref_Turns_22 (H A L S most lim : Int) (w : World) :
    Calls Try.prog 22 #[.agg #[.int .i64 H, .int .i64 A], .agg #[.int .i64 L, .int .i64 S], .int .i64 most, .int .i64 lim] w fun e w' => e = .returned (turV (trnE H A L S most lim) (trn H L S lim most.toNat A)) ∧ Below w.heap.size w w' := by
  go_enter Try.func22, Try.ntmps22
  go_upto_region 1 with fail
  obtain ⟨w1, hw1⟩ : ∃ zz, zz = w.alloc (.cells #[.int .i64 H, .int .i64 A] 38) := ⟨_, rfl⟩
  have hz1 : w1.heap.size = w.heap.size + 1 := by rw [hw1]; simp
  obtain ⟨w2, hw2⟩ : ∃ zz, zz = w1.alloc (.cells #[.int .i64 L, .int .i64 S] 24) := ⟨_, rfl⟩
  have HF2 : Hid (Blk w2 w.heap.size 38 #[.int .i64 H, .int .i64 A]) := Lib.hid (hw2 ▸ hw1 ▸ (Blk.new _ _ _).alloc _)
  have HW2 : Hid (Blk w2 (w.heap.size+1) 24 #[.int .i64 L, .int .i64 S]) := Lib.hid (by have := Blk.new w1 24 #[.int .i64 L, .int .i64 S]; rw [hz1, ← hw2] at this; exact this)
  have HB2 : Hid (Below w.heap.size w w2) := Lib.hid (by rw [hw2, hw1]; (repeat (first | exact Below.refl _ _ | exact below_alloc _ _ | refine Below.alloc ?_ (by simp; omega) _ | refine Below.alloc ?_ (by simp) _)))
  rw [← hw1, ← hw2]
  clear hw1 hw2 hz1
  have hs2 := HW2.out.lt
  have c0 : w2.cell? ⟨w.heap.size, 0, none⟩ = some (.int .i64 H) := HF2.out.cell 0
  have c1 : w2.cell? ⟨w.heap.size, 1, none⟩ = some (.int .i64 A) := HF2.out.cell 1
  have c2 : w2.cell? ⟨w.heap.size+1, 0, none⟩ = some (.int .i64 L) := HW2.out.cell 0
  have c3 : w2.cell? ⟨w.heap.size+1, 1, none⟩ = some (.int .i64 S) := HW2.out.cell 1
  have HL := Lib.hid (ref_Leach_20 H A L S w2)
  unfold prE at HL
  have HE0 : Hid (lchE H A L S ≠ 0 → trnE H A L S most lim = lchE H A L S) := Lib.hid fun h => if_neg h
  have HE1 : Hid (lchE H A L S = 0 → trnE H A L S most lim = if inB 400 most = true ∧ inB 1073741824 lim = true then 0 else 1) := Lib.hid fun h => if_pos h
  have HEA : Hid (lchE H A L S = 0 → 1 ≤ H ∧ H ≤ 1073741824) := Lib.hid fun h => by
    unfold lchE at h
    split at h
    · rename_i h2; exact h2.1
    · omega
  generalize orZ (lchE H A L S) H = h' at HL
  generalize orZ (lchE H A L S) (lchA H A L S) = a' at HL
  generalize orZ (lchE H A L S) L = l' at HL
  generalize orZ (lchE H A L S) (lchD H A L S) = d' at HL
  generalize lchE H A L S = E at HL HE0 HE1 HEA
  go_wp2_with fail
  refine HL.out.mono ?_
  rintro e w3 ⟨rfl, hb3⟩
  have HB3 := Lib.hid (HB2.out.trans (hb3.mono (by omega)))
  have HF3 := Lib.hid (HF2.out.below hb3 (by omega))
  have HW3 := Lib.hid (HW2.out.below hb3 (by omega))
  clear hb3 c0 c1 c2 c3 HL
  have hs3 := HW3.out.lt
  by_cases hE : E ≠ 0
  · have h1 : (E != 0) = true := by simpa using hE
    have HE := Lib.hid (HE0.out hE)
    have HN := Lib.hid hE
    clear hE
    go_wp2_with fail
    go_ret3
    exact ⟨ret_tur (by rw [HE.out, if_neg HN.out]) (by rw [HE.out]; simp [HN.out]) HE.out.symm, (HB3.out.alloc (by omega) _).alloc (by simp; omega) _⟩
  have hE := Decidable.not_not.1 hE
  have h1 : (E != 0) = false := by simpa using hE
  have HE2 := Lib.hid (HE1.out hE)
  obtain ⟨hH0, hH1⟩ := HEA.out hE
  clear HE0 HE1 HEA
  subst hE
  go_upto_region 2 with fail
  obtain ⟨w4, hw4⟩ : ∃ zz, zz = (w3.alloc (.cells #[.int .i64 h', .int .i64 a'] 38)).alloc (.cells #[.int .i64 l', .int .i64 d'] 24) := ⟨_, rfl⟩
  have hb4 : Below w3.heap.size w3 w4 := by rw [hw4]; (repeat (first | exact Below.refl _ _ | exact below_alloc _ _ | refine Below.alloc ?_ (by simp; omega) _ | refine Below.alloc ?_ (by simp) _))
  rw [← hw4]
  clear hw4
  have HB4 := Lib.hid (HB3.out.trans (hb4.mono (by omega)))
  have HF4 := Lib.hid (HF3.out.below hb4 (by omega))
  have HW4 := Lib.hid (HW3.out.below hb4 (by omega))
  clear hb4
  have hs4 := HW4.out.lt
  go_wp2_with fail
  refine (within_0 _ _ _).mono ?_
  rintro e wa ⟨rfl, rfl⟩
  cases hm : inB 400 most
  · have HE : Hid (trnE H A L S most lim = 1) := Lib.hid (by rw [HE2.out, if_neg]; intro h; rw [h.1] at hm; cases hm)
    clear hm
    go_wp2_with fail
    go_ret3
    exact ⟨ret_tur (by rw [HE.out]; rfl) (by rw [HE.out]; rfl) HE.out.symm, HB4.out⟩
  obtain ⟨m0', m1'⟩ := inB_iff.1 hm
  clear hm
  go_wp2_with fail
  refine (within_0 _ _ _).mono ?_
  rintro e wa ⟨rfl, rfl⟩
  cases h2 : inB 1073741824 lim
  · have HE : Hid (trnE H A L S most lim = 1) := Lib.hid (by rw [HE2.out, if_neg]; intro h; rw [h.2] at h2; cases h2)
    clear h2
    go_wp2_with fail
    go_ret3
    exact ⟨ret_tur (by rw [HE.out]; rfl) (by rw [HE.out]; rfl) HE.out.symm, HB4.out⟩
  have HE : Hid (trnE H A L S most lim = 0) := Lib.hid (by rw [HE2.out, if_pos ⟨inB_iff.2 ⟨m0', m1'⟩, h2⟩])
  clear h2 HE2
  obtain ⟨N, hN⟩ : ∃ N : Nat, (N : Int) = most := ⟨most.toNat, by omega⟩
  have hNt : most.toNat = N := by omega
  rw [hNt] at *
  subst hN
  clear hNt
  obtain ⟨o, ho⟩ : ∃ o, o = trn H L S lim N A := ⟨_, rfl⟩
  have HO := Lib.hid ho
  clear ho
  go_wp2_with fail
  go_loopw [14] (fun i wr => ∃ (k : Nat) (A' : Int), k ≤ N + 1 ∧ i = .int .i64 k ∧ Hid (o = if k ≤ N then (trn H L S lim (N - k) A').map (· + k) else none) ∧ Blk wr w.heap.size 38 #[.int .i64 H, .int .i64 A'] ∧ Blk wr (w.heap.size+1) 24 #[.int .i64 L, .int .i64 S] ∧ Below w.heap.size w wr) (fun i _ => (N + 1) - (intOf i).toNat)
  case atStart => exact ⟨0, A, by omega, rfl, Lib.hid (by rw [HO.out]; simp), HF4.out, HW4.out, HB4.out⟩
  case round =>
    obtain ⟨k, A', hk, rfl, HK, hF, hW, hb⟩ := hrel
    have HFr := Lib.hid hF
    have HWr := Lib.hid hW
    have HBr := Lib.hid hb
    have c0 : wr.cell? ⟨w.heap.size, 0, none⟩ = some (.int .i64 H) := hF.cell 0
    have c1 : wr.cell? ⟨w.heap.size, 1, none⟩ = some (.int .i64 A') := hF.cell 1
    have c2 : wr.cell? ⟨w.heap.size+1, 0, none⟩ = some (.int .i64 L) := hW.cell 0
    have c3 : wr.cell? ⟨w.heap.size+1, 1, none⟩ = some (.int .i64 S) := hW.cell 1
    have hfl := hF.lt
    have hwl := hW.lt
    clear hF hW hb
    by_cases hkN : N < k
    · have HO2 : Hid (o = none) := Lib.hid (by rw [HK.out, if_neg (by omega)])
      have hlt : (N : Int) < k := by omega
      go_wp2_with fail
      go_ret3
      exact ⟨ret_tur0 HE.out (HO.out.symm.trans HO2.out) rfl rfl, HBr.out⟩
    have hkN' : k ≤ N := by omega
    have hlt : (k : Int) ≤ N := by omega
    have HK2 : Hid (o = (trn H L S lim (N - k) A').map (· + k)) := Lib.hid (by rw [HK.out, if_pos hkN'])
    by_cases hle : A' ≤ lim
    · have HO2 : Hid (o = some k) := Lib.hid (by rw [HK2.out, trn_stop hle]; simp)
      go_wp2_with fail
      go_ret3
      exact ⟨ret_tur0 HE.out (HO.out.symm.trans HO2.out) rfl rfl, HBr.out⟩
    have hgt : lim < A' := by omega
    have HTN := Lib.hid (ref_Leach_20 H A' L S wr)
    unfold prE at HTN
    have HZ : Hid (lchE H A' L S ≠ 0 → o = none) := Lib.hid fun h => by rw [HK2.out, trn_fail hle h]; rfl
    have HS : Hid (lchE H A' L S = 0 → o = if k + 1 ≤ N then (trn H L S lim (N - (k + 1)) (lchA H A' L S)).map (· + (k + 1)) else none) := Lib.hid fun h => by
      by_cases hc : k + 1 ≤ N
      · rw [if_pos hc, HK2.out, show N - k = N - (k + 1) + 1 by omega, trn_step hle h, map_add]
      · rw [if_neg hc, HK2.out, show N - k = 0 by omega, trn_zero hle]; rfl
    have hv1 : Hid (lchE H A' L S = 0 → orZ (lchE H A' L S) H = H ∧ orZ (lchE H A' L S) (lchA H A' L S) = lchA H A' L S) := Lib.hid fun h => by simp [orZ, h]
    generalize orZ (lchE H A' L S) H = hh at HTN hv1
    generalize orZ (lchE H A' L S) (lchA H A' L S) = aa at HTN hv1
    generalize orZ (lchE H A' L S) L = ll at HTN
    generalize orZ (lchE H A' L S) (lchD H A' L S) = dd at HTN
    generalize hEE : lchE H A' L S = E' at HTN HZ HS hv1
    clear hEE
    go_wp2_with fail
    refine HTN.out.mono ?_
    rintro e w5 ⟨rfl, hb5⟩
    have HB5 := Lib.hid (HBr.out.trans (hb5.mono (by omega)))
    have HF5 := Lib.hid (HFr.out.below hb5 hfl)
    have HW5 := Lib.hid (HWr.out.below hb5 hwl)
    clear hb5 c0 c1 c2 c3 HTN
    by_cases hE' : E' ≠ 0
    · have h3 : (E' != 0) = true := by simpa using hE'
      have HO2 := Lib.hid (HZ.out hE')
      have hs5 := HW5.out.lt
      go_wp2_with fail
      go_ret3
      exact ⟨ret_tur0 HE.out (HO.out.symm.trans HO2.out) rfl rfl, (HB5.out.alloc (by omega) _).alloc (by simp; omega) _⟩
    have hE' := Decidable.not_not.1 hE'
    have h3 : (E' != 0) = false := by simpa using hE'
    have HO2 := Lib.hid (HS.out hE')
    obtain ⟨v1, v2⟩ := hv1.out hE'
    have HV1 := Lib.hid v1
    have HV2 := Lib.hid v2
    clear HZ HS hv1 v1 v2
    subst hE'
    have hs5 := HW5.out.lt
    go_upto_region 12 with fail
    obtain ⟨w6, hw6⟩ : ∃ zz, zz = (w5.alloc (.cells #[.int .i64 hh, .int .i64 aa] 38)).alloc (.cells #[.int .i64 ll, .int .i64 dd] 24) := ⟨_, rfl⟩
    have hb6 : Below w5.heap.size w5 w6 := by rw [hw6]; (repeat (first | exact Below.refl _ _ | exact below_alloc _ _ | refine Below.alloc ?_ (by simp; omega) _ | refine Below.alloc ?_ (by simp) _))
    have HG6 : Hid (Blk w6 w5.heap.size 38 #[.int .i64 hh, .int .i64 aa]) := Lib.hid (hw6 ▸ (Blk.new _ _ _).alloc _)
    rw [← hw6]
    clear hw6
    have HB6 := Lib.hid (HB5.out.trans (hb6.mono (by omega)))
    have HF6 := Lib.hid (HF5.out.below hb6 (by omega))
    have HW6 := Lib.hid (HW5.out.below hb6 (by omega))
    clear hb6
    have g0 : w6.cell? ⟨w5.heap.size, 0, none⟩ = some (.int .i64 hh) := HG6.out.cell 0
    have g1 : w6.cell? ⟨w5.heap.size, 1, none⟩ = some (.int .i64 aa) := HG6.out.cell 1
    have c0 : w6.cell? ⟨w.heap.size, 0, none⟩ = some (.int .i64 H) := HF6.out.cell 0
    have c1 : w6.cell? ⟨w.heap.size, 1, none⟩ = some (.int .i64 A') := HF6.out.cell 1
    have f0 := HF6.out.frozen 0
    have f1 := HF6.out.frozen 1
    go_wp2_with fail
    go_roundw
    case rel => exact ⟨k + 1, lchA H A' L S, by omega, by go_num, HO2, by rw [← HV2.out]; have := (HF6.out.set_ 0 (.int .i64 hh)).set_ 1 (.int .i64 aa); rw [HV1.out] at this ⊢; exact this, (HW6.out.far (p := ⟨w.heap.size, 0, none⟩) (by simp) _).far (p := ⟨w.heap.size, 1, none⟩) (by simp) _, (HB6.out.setCell (p := ⟨w.heap.size, 0, none⟩) (by simp) _).setCell (p := ⟨w.heap.size, 1, none⟩) (by simp) _⟩
    case measure => simp [intOf]; omega
end Go.Proofs.Ythmebjbaigiehaa
