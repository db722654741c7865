/- Contract of the reference's Distinguish. -/
import Derived.Test.YtbojjhdcmogjdaaRefMay
import Derived.Test.YtbojjhdcmogjdaaRefBinds
namespace Go.Proofs.Ytbojjhdcmogjdaa
open Go.RowKit

/-- the error of Distinguish -/
def disE (E : Int) (n : Nat) (i : Int) : Int := if E ≠ 0 then E else if 0 ≤ i ∧ i < n then 0 else 1
theorem disE_zero {E : Int} {n : Nat} {i : Int} (h : disE E n i = 0) : E = 0 ∧ 0 ≤ i ∧ i < n := by
  unfold disE at h
  split at h
  · rename_i h1; exact absurd h h1
  split at h
  · rename_i h1 h2; exact ⟨Decidable.not_not.1 h1, h2⟩
  · cases h
/-- what Distinguish hands back: a list, is it one that distinguishes, the error -/
def DisR (L : List Int) (d : Bool) (E : Int) (e : Ending) (w' : World) : Prop :=
  ∃ (A : Option Addr) (k c : Nat), e = .returned (.tuple #[.slice A k c, .bool (decide (E = 0) && d), .int .i64 E]) ∧ k = (if E = 0 then L.length else 0) ∧ Rd w' w'.heap.size A k (fun j => .int .i64 (L.getD j 0))
theorem DisR.bad {L : List Int} {d : Bool} {E : Int} {w' : World} (h : E ≠ 0) : DisR L d E (.returned (.tuple #[.slice none 0 0, .bool false, .int .i64 E])) w' :=
  ⟨none, 0, 0, by simp [h], by rw [if_neg h], Rd.nil⟩

set_option maxRecDepth 100000 in
set_option maxHeartbeats 4000000 in
theorem ref_Dist_20 {SA CA : Option Addr} {sn sc n cc : Nat} {S no hr wi : Nat → Int} {FA RA : Nat → Option Addr} {fn fc rn rc : Nat → Nat} {F R : Nat → Nat → Int} (B : Nat) (A : Option Addr) (m c : Nat) (l : Nat → Int) (i : Int) (w : World) (hs : SmK sn n fn rn) (hm : m ≤ 1000) (hB : B ≤ w.heap.size) (hr0 : RdK w B SA sn S CA n no hr wi FA fn fc F RA rn rc R) (hf : Rd w B A m (fun j => .int .i64 (l j))) :
    Calls Try.prog 20 #[(.agg #[.slice SA sn sc, .slice CA n cc]), .int .i64 i, .slice A m c] w fun e w' => DisR (fltL (misP S (wi i.toNat) (F i.toNat) (fn i.toNat)) l m) (decide ((fltL (misP S (wi i.toNat) (F i.toNat) (fn i.toNat)) l m).length ≠ 0) && allB (R i.toNat) l m (rn i.toNat)) (disE (askE (chkE S sn n no hr wi fn F rn R) sn l m 0) n i) e w' ∧ Below w.heap.size w w' := by
  have HX : Hid (∀ W, Below w.heap.size w W → Calls Try.prog 37 #[(.agg #[.slice SA sn sc, .slice CA n cc]), .slice A m c, .int .i64 0] W fun e w' => e = .returned (.int .i64 (askE (chkE S sn n no hr wi fn F rn R) sn l m 0)) ∧ Below W.heap.size W w') := Lib.hid fun W h =>
    asked_37 B A m c l 0 W hs hm (Nat.le_trans hB h.size) (hr0.below (h.mono hB)) (hf.below (h.mono hB))
  have HK : Hid (∀ W j, j < n → Below w.heap.size w W → ∃ b off, CA = some ⟨b, off, none⟩ ∧ b < B ∧ W.cell? ⟨b, off + j * 5, none⟩ = some (.int .i64 (no j)) ∧ W.cell? ⟨b, off + j * 5 + 1, none⟩ = some (.int .i64 (hr j)) ∧
    W.cell? ⟨b, off + j * 5 + 2, none⟩ = some (.int .i64 (wi j)) ∧ W.cell? ⟨b, off + j * 5 + 3, none⟩ = some (.slice (FA j) (fn j) (fc j)) ∧ W.cell? ⟨b, off + j * 5 + 4, none⟩ = some (.slice (RA j) (rn j) (rc j))) := Lib.hid fun W j hj h => (hr0.below (h.mono hB)).at_ hj
  have HALL : Hid (∀ W j, j < n → Below w.heap.size w W → Calls Try.prog 24 #[.slice (RA j) (rn j) (rc j), .slice A m c] W fun e w' => e = .returned (.bool (allB (R j) l m (rn j))) ∧ W = w') := Lib.hid fun W j hj h =>
    All_24 (RA j) A (rn j) (rc j) m c B (R j) l W (by have := (hs.2.2 j hj).2; omega) (by omega) ((hr0.below (h.mono hB)).2.2 j hj).2 (hf.below (h.mono hB))
  have HMIS : Hid (askE (chkE S sn n no hr wi fn F rn R) sn l m 0 = 0 → ∀ W j, j < n → Below w.heap.size w W → Calls Try.prog 38 #[(.agg #[.slice SA sn sc, .slice CA n cc]), .agg #[.int .i64 (no j), .int .i64 (hr j), .int .i64 (wi j), .slice (FA j) (fn j) (fc j), .slice (RA j) (rn j) (rc j)], .slice A m c] W fun e w' =>
      (∃ A' k' c', e = .returned (.slice A' k' c') ∧ k' = (fltL (misP S (wi j) (F j) (fn j)) l m).length ∧ Rd w' w'.heap.size A' k' (fun q => .int .i64 ((fltL (misP S (wi j) (F j) (fn j)) l m).getD q 0))) ∧ Below W.heap.size W w') := Lib.hid fun h0 W j hj h => by
    obtain ⟨_, h2, _⟩ := askE_zero h0
    have h3 := hr0.below (h.mono hB)
    exact Missing_38 SA CA (FA j) (RA j) A sn sc n cc (fn j) (fc j) (rn j) (rc j) m c B S (F j) l (no j) (hr j) (wi j) W (by have := (hs.2.2 j hj).1; omega) hm (Nat.le_trans hB h.size) h3.1 (h3.2.2 j hj).1 (hf.below (h.mono hB)) (fun k hk => (okS_at m h2 k hk).1)
  have HN : Hid (askE (chkE S sn n no hr wi fn F rn R) sn l m 0 = 0 → n ≤ 64) := Lib.hid fun h => (chk_zero (askE_zero h).1).2.1
  have hn100 : (n : Int) ≤ 100 := by have := hs.2.1; omega
  have hwn : IntKind.i64.wrap ((n : Int) - 1) = (n : Int) - 1 := IntWalk.i64_in _ ⟨by omega, by omega⟩
  clear hs hr0 hf
  generalize askE (chkE S sn n no hr wi fn F rn R) sn l m 0 = E at HX HMIS HN ⊢
  obtain ⟨E2, hE2⟩ : ∃ E2, E2 = disE E n i := ⟨_, rfl⟩
  rw [← hE2]
  have HE2 := Lib.hid hE2
  clear hE2
  obtain ⟨L, hL⟩ : ∃ L, L = fltL (misP S (wi i.toNat) (F i.toNat) (fn i.toNat)) l m := ⟨_, rfl⟩
  obtain ⟨rb, hrb⟩ : ∃ rb, rb = allB (R i.toNat) l m (rn i.toNat) := ⟨_, rfl⟩
  rw [← hL, ← hrb]
  have HLL : Hid (∀ j : Nat, i = j → fltL (misP S (wi j) (F j) (fn j)) l m = L ∧ allB (R j) l m (rn j) = rb) := Lib.hid fun j h => by rw [hL, hrb, h, Int.toNat_natCast]; exact ⟨rfl, rfl⟩
  clear hL hrb
  go_enter Try.func20, Try.ntmps20
  go_upto_region 1 with fail
  obtain ⟨w0, hw0⟩ : ∃ zz, zz = w.alloc (.cells #[.slice SA sn sc, .slice CA n cc] 25) := ⟨_, rfl⟩
  have HK0 : Hid (Blk w0 w.heap.size 25 #[.slice SA sn sc, .slice CA n cc]) := Lib.hid (hw0 ▸ Blk.new _ _ _)
  have HB0 : Hid (Below w.heap.size w w0) := Lib.hid (hw0 ▸ below_alloc _ _)
  rw [← hw0]
  clear hw0
  have hs0 := HK0.out.lt
  have hz0 := HB0.out.size
  have cb0 : w0.cell? ⟨w.heap.size, 0, none⟩ = some (.slice SA sn sc) := HK0.out.cell 0
  have cb1 : w0.cell? ⟨w.heap.size, 1, none⟩ = some (.slice CA n cc) := HK0.out.cell 1
  go_wp2_with fail
  refine (HX.out _ HB0.out).mono ?_
  rintro e w1 ⟨rfl, hb⟩
  have HK1 := Lib.hid (HK0.out.below hb hs0)
  have HB1 := Lib.hid (HB0.out.trans (hb.mono hz0))
  clear hb HK0 HB0 cb0 cb1
  have hs1 := HK1.out.lt
  have hz1 := HB1.out.size
  have cb0 : w1.cell? ⟨w.heap.size, 0, none⟩ = some (.slice SA sn sc) := HK1.out.cell 0
  have cb1 : w1.cell? ⟨w.heap.size, 1, none⟩ = some (.slice CA n cc) := HK1.out.cell 1
  by_cases hE : E = 0
  · have HMI := Lib.hid (HMIS.out hE)
    subst hE
    clear HX HMIS HN
    have HWI : Hid (∀ W, Calls Try.prog 30 #[.int .i64 i, .int .i64 0, .int .i64 ((n : Int) - 1)] W fun e w' => e = .returned (.bool (decide (0 ≤ i) && decide (i ≤ (n : Int) - 1))) ∧ W = w') := Lib.hid fun W => within_30 _ _ _ W
    obtain ⟨bb, hbb⟩ : ∃ bb, bb = (decide (0 ≤ i) && decide (i ≤ (n : Int) - 1)) := ⟨_, rfl⟩
    rw [← hbb] at HWI
    have HBB := Lib.hid hbb
    clear hbb
    go_wp2_with fail
    refine (HWI.out _).mono ?_
    rintro e w' ⟨rfl, rfl⟩
    cases bb with
    | false =>
      have HE : Hid (E2 = 1) := Lib.hid (by
        rw [HE2.out, disE, if_neg (by simp), if_neg]
        have := HBB.out.symm
        rw [Bool.and_eq_false_iff, decide_eq_false_iff_not, decide_eq_false_iff_not] at this
        omega)
      go_wp2_with fail
      refine bodyPost_ret (results_tmp3' rfl _ _ _) rfl ?_
      refine ⟨?_, HB1.out⟩
      rw [HE.out]
      exact DisR.bad (by decide)
    | true =>
      have hin := HBB.out.symm
      rw [Bool.and_eq_true, decide_eq_true_eq, decide_eq_true_eq] at hin
      obtain ⟨j, rfl⟩ : ∃ j : Nat, i = j := ⟨i.toNat, by omega⟩
      obtain ⟨hin0, hin1⟩ := hin
      have hj : j < n := by omega
      have hj' : (j : Int) < n := by omega
      have HE : Hid (E2 = 0) := Lib.hid (by rw [HE2.out, disE, if_neg (by simp), if_pos (by omega)])
      obtain ⟨e1, e2⟩ := HLL.out j rfl
      obtain ⟨b, off, e, _, c0, c1, c2, c3, c4⟩ := HK.out w1 j hj HB1.out
      subst e
      have HC := Lib.hid (HMI.out w1.drew j hj HB1.out.drew)
      rw [e1] at HC
      have HAL := Lib.hid (HALL.out · j hj)
      rw [e2] at HAL
      clear e1 e2
      clear hwn hin0 hin1
      go_upto_region 6 with fail
      go_still_tail 7, (by kernel_rfl)
      change wpList _ _ _ _ _ w1.drew
      have HB2 : Hid (Below w.heap.size w w1.drew) := Lib.hid HB1.out.drew
      have HK2 : Hid (Blk w1.drew w.heap.size 25 #[.slice SA sn sc, .slice (some ⟨b, off, none⟩) n cc]) := Lib.hid (HK1.out.drewN 1)
      clear c0 c1 c2 c3 c4 cb0 cb1 HK1 HB1
      generalize w1.drew = w2 at HC HB2 HK2 ⊢
      have hs2 := HK2.out.lt
      have hz2 := HB2.out.size
      go_wp2_with fail
      refine HC.out.mono ?_
      rintro e w3 ⟨⟨A', k', c', rfl, rfl, hrd⟩, hb⟩
      have HRD := Lib.hid hrd
      have HB3 := Lib.hid (HB2.out.trans (hb.mono hz2))
      have HK3 := Lib.hid (HK2.out.below hb hs2)
      clear hrd hb HB2 HK2 HC
      have cb0 : w3.cell? ⟨w.heap.size, 0, none⟩ = some (.slice SA sn sc) := HK3.out.cell 0
      have cb1 : w3.cell? ⟨w.heap.size, 1, none⟩ = some (.slice (some ⟨b, off, none⟩) n cc) := HK3.out.cell 1
      obtain ⟨b', off', e', _, c0, c1, c2, c3, c4⟩ := HK.out w3 j hj HB3.out
      cases e'
      by_cases hL : L.length = 0
      · have HL := Lib.hid hL
        have hL' : (0 : Int) < (L.length : Nat) ↔ False := by simp [hL]
        have hL2 : decide ((0 : Int) < (L.length : Nat)) = false := by simp [hL]
        have hL3 : ((L.length : Nat) : Int) = 0 := by simp [hL]
        go_wp2_with fail
        refine bodyPost_ret (results_tmp3' rfl _ _ _) rfl ?_
        refine ⟨⟨A', _, c', by rw [HE.out]; simp [HL.out], by rw [HE.out, if_pos rfl], HRD.out⟩, HB3.out⟩
      · have hL' : (0 : Int) < (L.length : Nat) := by omega
        have HL := Lib.hid hL
        go_wp2_with fail
        refine (HAL.out w3 HB3.out).mono ?_
        rintro e w' ⟨rfl, rfl⟩
        go_wp2_with fail
        refine bodyPost_ret (results_tmp3' rfl _ _ _) rfl ?_
        refine ⟨⟨A', _, c', by rw [HE.out]; simp [HL.out], by rw [HE.out, if_pos rfl], HRD.out⟩, HB3.out⟩
  · have HE : Hid (E2 = E) := Lib.hid (by rw [HE2.out, disE, if_pos hE])
    have HNE := Lib.hid hE
    have hE' : (E != 0) = true := by simpa using hE
    clear hE
    go_wp2_with fail
    refine bodyPost_ret (results_tmp3' rfl _ _ _) rfl ?_
    refine ⟨?_, HB1.out⟩
    rw [HE.out]
    exact DisR.bad HNE.out
end Go.Proofs.Ytbojjhdcmogjdaa
