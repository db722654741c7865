/- Contracts of Turns and of its closure. The numbers are machine integers. -/
import Derived.Test.YthmebjbaigiehaaLeach
namespace Go.Proofs.Ythmebjbaigiehaa
open Go.RowKit

section
variable {H L S lim A : Int}
theorem trn_stop (h : A ≤ lim) (k : Nat) : trn H L S lim k A = some 0 := by cases k <;> simp [trn, h]
theorem trn_zero (h : ¬ A ≤ lim) : trn H L S lim 0 A = none := by simp [trn, h]
theorem trn_fail (h : ¬ A ≤ lim) (he : lchE H A L S ≠ 0) (k : Nat) : trn H L S lim k A = none := by cases k <;> simp [trn, h, he]
theorem trn_step (h : ¬ A ≤ lim) (he : lchE H A L S = 0) (k : Nat) : trn H L S lim (k + 1) A = (trn H L S lim k (lchA H A L S)).map (· + 1) := by simp [trn, h, he]
end
theorem map_add (o : Option Nat) (k : Nat) : (o.map (· + 1)).map (· + k) = o.map (· + (k + 1)) := by
  cases o <;> simp <;> omega
theorem grown_of_below {w w' : World} (h : Below w.heap.size w w') (row : Option Nat) : w.grownBy w' row := ⟨h.os, h.tape, h.output, h.size, fun k hk _ => h.block k hk⟩
/-- the number of turns -/
def trN : Option Nat → Int | some n => n | none => 0
/-- what Turns returns -/
def turV (E : Int) (o : Option Nat) : Value := .tuple #[.int .i64 (if E = 0 then trN o else 0), .bool (decide (E = 0) && o.isSome), .int .i64 E]
theorem ret_tur {E : Int} {o : Option Nat} {n e : Int} {b : Bool} (h1 : n = if E = 0 then trN o else 0) (h2 : b = (decide (E = 0) && o.isSome)) (h3 : e = E) : Ending.returned (.tuple #[.int .i64 n, .bool b, .int .i64 e]) = .returned (turV E o) := by rw [h1, h2, h3]; rfl

theorem ret_tur0 {E : Int} {o o' : Option Nat} {n : Int} {b : Bool} (hE : E = 0) (ho : o' = o) (h1 : n = trN o) (h2 : b = o.isSome) : Ending.returned (.tuple #[.int .i64 n, .bool b, .int .i64 0]) = .returned (turV E o') := by
  subst hE
  subst ho
  rw [h1, h2]
  rfl

set_option maxRecDepth 100000 in
set_option maxHeartbeats 2000000 in
theorem turn_33 (H A L S : Int) (fb wb : Nat) (w : World) (hf : Blk w fb 38 #[.int .i64 H, .int .i64 A]) (hw : Blk w wb 24 #[.int .i64 L, .int .i64 S]) :
    Calls Try.prog 33 #[.pointer (some ⟨fb, 0, none⟩), .pointer (some ⟨wb, 0, none⟩)] w fun e w' => e = .returned (.bool (decide (lchE H A L S = 0))) ∧ Blk w' fb 38 #[.int .i64 (orZ (lchE H A L S) H), .int .i64 (orZ (lchE H A L S) (lchA H A L S))] ∧ w.grownBy w' (some fb) := by
  have HL := Lib.hid (Leach_19 H A L S w)
  unfold prE at HL
  have HF := Lib.hid hf
  have c0 : w.cell? ⟨fb, 0, none⟩ = some (.int .i64 H) := hf.cell 0
  have c1 : w.cell? ⟨fb, 1, none⟩ = some (.int .i64 A) := hf.cell 1
  have c2 : w.cell? ⟨wb, 0, none⟩ = some (.int .i64 L) := hw.cell 0
  have c3 : w.cell? ⟨wb, 1, none⟩ = some (.int .i64 S) := hw.cell 1
  have hlt := hf.lt
  clear hf hw
  generalize orZ (lchE H A L S) H = h' at HL ⊢
  generalize orZ (lchE H A L S) (lchA H A L S) = a' at HL ⊢
  generalize orZ (lchE H A L S) L = l' at HL ⊢
  generalize orZ (lchE H A L S) (lchD H A L S) = d' at HL ⊢
  generalize lchE H A L S = E at HL ⊢
  go_enter Try.func33, Try.ntmps33
  go_wp2_with fail
  refine HL.out.mono ?_
  rintro e w1 ⟨rfl, hb1⟩
  have HB1 := Lib.hid hb1
  have HF1 := Lib.hid (HF.out.below hb1 hlt)
  clear hb1 c0 c1 c2 c3
  have hs1 := HF1.out.lt
  have c0 : w1.cell? ⟨fb, 0, none⟩ = some (.int .i64 H) := HF1.out.cell 0
  have c1 : w1.cell? ⟨fb, 1, none⟩ = some (.int .i64 A) := HF1.out.cell 1
  have f0 := HF1.out.frozen 0
  have f1 := HF1.out.frozen 1
  have hsz := HB1.out.size
  go_wp2_with fail
  go_ret
  exact ⟨ret_bool (by rw [Bool.eq_iff_iff]; simp), (((HF1.out.set_ 0 (.int .i64 h')).set_ 1 (.int .i64 a')).alloc _).alloc _, grown_alloc (grown_alloc (grown_set (grown_set (grown_of_below HB1.out _) _ _) _ _) _) _⟩

set_option maxRecDepth 100000 in
set_option maxHeartbeats 4000000 in
theorem Turns_21 (H A L S most lim : Int) (w : World) :
    Calls Try.prog 21 #[.agg #[.int .i64 H, .int .i64 A], .agg #[.int .i64 L, .int .i64 S], .int .i64 most, .int .i64 lim] w fun e w' => e = .returned (turV (trnE H A L S most lim) (trn H L S lim most.toNat A)) ∧ Below w.heap.size w w' := by
  go_enter Try.func21, Try.ntmps21
  go_upto_region 1 with fail
  obtain ⟨w1, hw1⟩ : ∃ zz, zz = w.alloc (.cells #[.int .i64 H, .int .i64 A] 38) := ⟨_, rfl⟩
  have hz1 : w1.heap.size = w.heap.size + 1 := by rw [hw1]; simp
  obtain ⟨w2, hw2⟩ : ∃ zz, zz = w1.alloc (.cells #[.int .i64 L, .int .i64 S] 24) := ⟨_, rfl⟩
  have HF2 : Hid (Blk w2 w.heap.size 38 #[.int .i64 H, .int .i64 A]) := Lib.hid (hw2 ▸ hw1 ▸ (Blk.new _ _ _).alloc _)
  have HW2 : Hid (Blk w2 (w.heap.size+1) 24 #[.int .i64 L, .int .i64 S]) := Lib.hid (by have := Blk.new w1 24 #[.int .i64 L, .int .i64 S]; rw [hz1, ← hw2] at this; exact this)
  have HB2 : Hid (Below w.heap.size w w2) := Lib.hid (by rw [hw2, hw1]; (repeat (first | exact Below.refl _ _ | exact below_alloc _ _ | refine Below.alloc ?_ (by simp; omega) _ | refine Below.alloc ?_ (by simp) _)))
  rw [← hw1, ← hw2]
  clear hw1 hw2 hz1
  have hs2 := HW2.out.lt
  have c0 : w2.cell? ⟨w.heap.size, 0, none⟩ = some (.int .i64 H) := HF2.out.cell 0
  have c1 : w2.cell? ⟨w.heap.size, 1, none⟩ = some (.int .i64 A) := HF2.out.cell 1
  have c2 : w2.cell? ⟨w.heap.size+1, 0, none⟩ = some (.int .i64 L) := HW2.out.cell 0
  have c3 : w2.cell? ⟨w.heap.size+1, 1, none⟩ = some (.int .i64 S) := HW2.out.cell 1
  have HL := Lib.hid (Leach_19 H A L S w2)
  unfold prE at HL
  have HE0 : Hid (lchE H A L S ≠ 0 → trnE H A L S most lim = lchE H A L S) := Lib.hid fun h => if_neg h
  have HE1 : Hid (lchE H A L S = 0 → trnE H A L S most lim = if inB 400 most = true ∧ inB 1073741824 lim = true then 0 else 1) := Lib.hid fun h => if_pos h
  have HEA : Hid (lchE H A L S = 0 → 1 ≤ H ∧ H ≤ 1073741824) := Lib.hid fun h => by
    unfold lchE at h
    split at h
    · rename_i h2; exact h2.1
    · omega
  generalize orZ (lchE H A L S) H = h' at HL
  generalize orZ (lchE H A L S) (lchA H A L S) = a' at HL
  generalize orZ (lchE H A L S) L = l' at HL
  generalize orZ (lchE H A L S) (lchD H A L S) = d' at HL
  generalize lchE H A L S = E at HL HE0 HE1 HEA
  go_wp2_with fail
  refine HL.out.mono ?_
  rintro e w3 ⟨rfl, hb3⟩
  have HB3 := Lib.hid (HB2.out.trans (hb3.mono (by omega)))
  have HF3 := Lib.hid (HF2.out.below hb3 (by omega))
  have HW3 := Lib.hid (HW2.out.below hb3 (by omega))
  clear hb3 c0 c1 c2 c3 HL
  have hs3 := HW3.out.lt
  by_cases hE : E ≠ 0
  · have h1 : (E != 0) = true := by simpa using hE
    have HE := Lib.hid (HE0.out hE)
    have HN := Lib.hid hE
    clear hE
    go_wp2_with fail
    go_ret3
    exact ⟨ret_tur (by rw [HE.out, if_neg HN.out]) (by rw [HE.out]; simp [HN.out]) HE.out.symm, HB3.out⟩
  have hE := Decidable.not_not.1 hE
  have h1 : (E != 0) = false := by simpa using hE
  have HE2 := Lib.hid (HE1.out hE)
  obtain ⟨hH0, hH1⟩ := HEA.out hE
  clear HE0 HE1 HEA
  subst hE
  by_cases m0 : most < 0
  · have HE : Hid (trnE H A L S most lim = 1) := Lib.hid (by rw [HE2.out, if_neg]; intro h; have := inB_iff.1 h.1; omega)
    go_wp2_with fail
    go_ret3
    exact ⟨ret_tur (by rw [HE.out]; rfl) (by rw [HE.out]; rfl) HE.out.symm, HB3.out⟩
  have m0' : 0 ≤ most := by omega
  by_cases m1 : 400 < most
  · have HE : Hid (trnE H A L S most lim = 1) := Lib.hid (by rw [HE2.out, if_neg]; intro h; have := inB_iff.1 h.1; omega)
    go_wp2_with fail
    go_ret3
    exact ⟨ret_tur (by rw [HE.out]; rfl) (by rw [HE.out]; rfl) HE.out.symm, HB3.out⟩
  have m1' : most ≤ 400 := by omega
  go_wp2_with fail
  refine (limited_one _ _ _ (by simp)).mono ?_
  rintro e w4 ⟨rfl, hw4⟩
  have hb4 : Below w3.heap.size w3 w4 := hw4 ▸ below_alloc _ _
  clear hw4
  have HB4 := Lib.hid (HB3.out.trans (hb4.mono (by omega)))
  have HF4 := Lib.hid (HF3.out.below hb4 (by omega))
  have HW4 := Lib.hid (HW3.out.below hb4 (by omega))
  clear hb4
  have hs4 := HW4.out.lt
  cases h2 : inB 1073741824 lim
  · have HE : Hid (trnE H A L S most lim = 1) := Lib.hid (by rw [HE2.out, if_neg]; intro h; rw [h.2] at h2; cases h2)
    clear h2
    go_wp2_with fail
    go_ret3
    exact ⟨ret_tur (by rw [HE.out]; rfl) (by rw [HE.out]; rfl) HE.out.symm, HB4.out⟩
  have HE : Hid (trnE H A L S most lim = 0) := Lib.hid (by rw [HE2.out, if_pos ⟨inB_iff.2 ⟨m0', m1'⟩, h2⟩])
  clear h2 HE2
  obtain ⟨N, hN⟩ : ∃ N : Nat, (N : Int) = most := ⟨most.toNat, by omega⟩
  have hNt : most.toNat = N := by omega
  rw [hNt] at *
  subst hN
  clear hNt
  obtain ⟨o, ho⟩ : ∃ o, o = trn H L S lim N A := ⟨_, rfl⟩
  have HO := Lib.hid ho
  clear ho
  go_wp2_with fail
  go_loopw [8] (fun i wr => ∃ (k : Nat) (A' : Int), k ≤ N ∧ i = .int .i64 k ∧ Hid (o = (trn H L S lim (N - k) A').map (· + k)) ∧ Blk wr w.heap.size 38 #[.int .i64 H, .int .i64 A'] ∧ Blk wr (w.heap.size+1) 24 #[.int .i64 L, .int .i64 S] ∧ Below w.heap.size w wr) (fun i _ => N - (intOf i).toNat)
  case atStart => exact ⟨0, A, by omega, rfl, Lib.hid (by rw [HO.out]; simp), HF4.out, HW4.out, HB4.out⟩
  case round =>
    obtain ⟨k, A', hk, rfl, HK, hF, hW, hb⟩ := hrel
    have HFr := Lib.hid hF
    have HWr := Lib.hid hW
    have HBr := Lib.hid hb
    have c0 : wr.cell? ⟨w.heap.size, 0, none⟩ = some (.int .i64 H) := hF.cell 0
    have c1 : wr.cell? ⟨w.heap.size, 1, none⟩ = some (.int .i64 A') := hF.cell 1
    have hfl := hF.lt
    have hwl := hW.lt
    clear hF hW hb
    by_cases hle : A' ≤ lim
    · have HO2 : Hid (o = some k) := Lib.hid (by rw [HK.out, trn_stop hle]; simp)
      go_wp2_with fail
      go_ret3
      exact ⟨ret_tur0 HE.out (HO.out.symm.trans HO2.out) rfl rfl, HBr.out⟩
    have hgt : lim < A' := by omega
    by_cases hkN : k = N
    · have HO2 : Hid (o = none) := Lib.hid (by rw [HK.out, hkN, Nat.sub_self, trn_zero hle]; rfl)
      have hlt : (N : Int) < k + 1 := by omega
      go_wp2_with fail
      go_ret3
      exact ⟨ret_tur0 HE.out (HO.out.symm.trans HO2.out) rfl rfl, HBr.out⟩
    have hlt : (k : Int) + 1 ≤ N := by omega
    have HTN := Lib.hid (turn_33 H A' L S w.heap.size (w.heap.size+1) wr HFr.out HWr.out)
    have HZ : Hid (lchE H A' L S ≠ 0 → o = none) := Lib.hid fun h => by rw [HK.out, trn_fail hle h]; rfl
    have HS : Hid (lchE H A' L S = 0 → o = (trn H L S lim (N - (k + 1)) (lchA H A' L S)).map (· + (k + 1))) := Lib.hid fun h => by
      rw [HK.out, show N - k = N - (k + 1) + 1 by omega, trn_step hle h, map_add]
    cases hEE : decide (lchE H A' L S = 0)
    · have HO2 : Hid (o = none) := Lib.hid (HZ.out (of_decide_eq_false hEE))
      rw [hEE] at HTN
      clear hEE HZ HS
      go_wp2_with fail
      refine HTN.out.mono ?_
      rintro e w5 ⟨rfl, hF5, hg5⟩
      have HB5 := Lib.hid (HBr.out.trans (grown_below hg5 (Nat.le_of_lt hfl) (Nat.le_refl _)))
      clear hF5 hg5
      go_wp2_with fail
      go_ret3
      exact ⟨ret_tur0 HE.out (HO.out.symm.trans HO2.out) rfl rfl, HB5.out⟩
    · have hz := of_decide_eq_true hEE
      have HO2 := Lib.hid (HS.out hz)
      rw [hEE] at HTN
      have HTN2 : Hid (Calls Try.prog 33 #[.pointer (some ⟨w.heap.size, 0, none⟩), .pointer (some ⟨w.heap.size+1, 0, none⟩)] wr fun e w' => e = .returned (.bool true) ∧ Blk w' w.heap.size 38 #[.int .i64 H, .int .i64 (lchA H A' L S)] ∧ wr.grownBy w' (some w.heap.size)) := Lib.hid (by
        have := HTN.out
        simp only [orZ, if_pos hz] at this
        exact this)
      clear hEE HZ HS HTN hz
      go_wp2_with fail
      refine HTN2.out.mono ?_
      rintro e w5 ⟨rfl, hF5, hg5⟩
      have HB5 := Lib.hid (HBr.out.trans (grown_below hg5 (Nat.le_of_lt hfl) (Nat.le_refl _)))
      have HW5 := Lib.hid (blk_of_grown HWr.out hg5 (fun e => by injection e with e; omega))
      have HF5 := Lib.hid hF5
      clear hF5 hg5
      go_wp2_with fail
      go_roundw
      case rel => exact ⟨k + 1, lchA H A' L S, by omega, by go_num, HO2, HF5.out, HW5.out, HB5.out⟩
      case measure => simp [intOf]; omega
end Go.Proofs.Ythmebjbaigiehaa
