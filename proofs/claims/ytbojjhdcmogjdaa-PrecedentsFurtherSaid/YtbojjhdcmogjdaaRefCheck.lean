/- Contract of the reference's Check. -/
import Derived.Test.YtbojjhdcmogjdaaBook
namespace Go.Proofs.Ytbojjhdcmogjdaa
open Go.RowKit

section
variable {S : Nat → Int} {sn n : Nat} {no hr wi : Nat → Int} {fn : Nat → Nat} {F : Nat → Nat → Int} {rn : Nat → Nat} {R : Nat → Nat → Int}
theorem chk_bad (hz : ¬ (32 < sn ∨ 64 < n)) {j : Nat} (hj : j < n) (h : casB S sn no hr wi fn F rn R j = false) : (chkE S sn n no hr wi fn F rn R) = 520 := by
  rw [chkE, if_neg hz, if_neg]
  rintro ⟨_, h2⟩
  rw [casN_bad h n hj] at h2
  cases h2
theorem chk_side (hz : ¬ (32 < sn ∨ 64 < n)) {k : Nat} (hk : k < sn) (h : inB 1 (S k) = false) : (chkE S sn n no hr wi fn F rn R) = 520 := by
  rw [chkE, if_neg hz, if_neg]
  rintro ⟨h2, _⟩
  rw [sidB_bad h sn hk] at h2
  cases h2
theorem chk_ok (hz : ¬ (32 < sn ∨ 64 < n)) (h1 : sidB S sn = true) (h2 : casN S sn no hr wi fn F rn R n = true) : (chkE S sn n no hr wi fn F rn R) = 0 := by
  rw [chkE, if_neg hz, if_pos ⟨h1, h2⟩]
end

set_option maxRecDepth 100000 in
set_option maxHeartbeats 8000000 in
theorem ref_Check_14 {SA CA : Option Addr} {sn sc n cc : Nat} {S no hr wi : Nat → Int} {FA RA : Nat → Option Addr} {fn fc rn rc : Nat → Nat} {F R : Nat → Nat → Int} (B : Nat) (w : World) (hs : SmK sn n fn rn) (hB : B ≤ w.heap.size) (hr0 : RdK w B SA sn S CA n no hr wi FA fn fc F RA rn rc R) :
    Calls Try.prog 14 #[(.agg #[.slice SA sn sc, .slice CA n cc])] w fun e w' => e = .returned (.int .i64 (chkE S sn n no hr wi fn F rn R)) ∧ Below w.heap.size w w' := by
  have HR := Lib.hid hr0
  clear hr0
  obtain ⟨hs1, hs2, hs3⟩ := hs
  have HSM := Lib.hid hs3
  clear hs3
  have hs1' : (sn : Int) ≤ 100 := by omega
  have hs2' : (n : Int) ≤ 100 := by omega
  have h0 : Blk (w.alloc (.cells #[.slice SA sn sc, .slice CA n cc] 25)) w.heap.size 25 #[.slice SA sn sc, .slice CA n cc] := Blk.new _ _ _
  have hb0 : Below w.heap.size w (w.alloc (.cells #[.slice SA sn sc, .slice CA n cc] 25)) := below_alloc _ _
  go_enter Try.func14, Try.ntmps14
  by_cases hz1 : 32 < sn
  · have HE : Hid ((chkE S sn n no hr wi fn F rn R) = 2) := Lib.hid (by rw [chkE, if_pos (.inl hz1)])
    have hz1' : (32 : Int) < sn := by omega
    clear h0
    go_wp2_with fail
    go_ret
    exact ⟨ret_int HE.out.symm, hb0⟩
  have hz1' : (sn : Int) ≤ 32 := by omega
  by_cases hz2 : 64 < n
  · have HE : Hid ((chkE S sn n no hr wi fn F rn R) = 2) := Lib.hid (by rw [chkE, if_pos (.inr hz2)])
    have hz2' : (64 : Int) < n := by omega
    clear h0
    go_wp2_with fail
    go_ret
    exact ⟨ret_int HE.out.symm, hb0⟩
  have hz2' : (n : Int) ≤ 64 := by omega
  have HZ : Hid (¬ (32 < sn ∨ 64 < n)) := Lib.hid (by omega)
  go_upto_region 1 with fail
  generalize w.alloc (.cells #[.slice SA sn sc, .slice CA n cc] 25) = w0 at h0 hb0 ⊢
  have HK0 := Lib.hid h0
  have HB0 := Lib.hid hb0
  have hs0 := h0.lt
  clear h0 hb0 hz1 hz2
  have cb0 : w0.cell? ⟨w.heap.size, 0, none⟩ = some (.slice SA sn sc) := HK0.out.cell 0
  have cb1 : w0.cell? ⟨w.heap.size, 1, none⟩ = some (.slice CA n cc) := HK0.out.cell 1
  go_wp2_with fail
  go_loopw [3] (fun i wr => ∃ k : Nat, k ≤ sn ∧ i = .int .i64 k ∧ Hid (sidB S k = true) ∧ wr = w0) (fun i _ => sn - (intOf i).toNat)
  case atStart => exact ⟨0, Nat.zero_le _, rfl, Lib.hid rfl, rfl⟩
  case round =>
    obtain ⟨k, hk, rfl, HK, rfl⟩ := hrel
    by_cases hlt : k < sn
    · have hlt' : (k : Int) < sn := by omega
      obtain ⟨b, o, e, _, ck⟩ := (HR.out.below (HB0.out.mono hB)).side hlt
      subst e
      go_wp2_with fail
      refine (within_0 _ _ _).mono ?_
      rintro e w' ⟨rfl, rfl⟩
      cases h1 : inB 1 (S k)
      · have HE := Lib.hid (chk_side (no := no) (hr := hr) (wi := wi) (fn := fn) (F := F) (rn := rn) (R := R) HZ.out hlt h1)
        go_wp2_with fail
        go_ret
        exact ⟨ret_int HE.out.symm, HB0.out⟩
      · have HV : Hid (sidB S (k + 1) = true) := Lib.hid (by rw [sidB, HK.out, h1]; rfl)
        go_wp2_with fail
        go_roundw
        case rel => exact ⟨k + 1, by omega, by go_num, HV, trivial⟩
        case measure => simp [intOf]; omega
    · obtain rfl : k = sn := by omega
      obtain ⟨w5, rfl⟩ : ∃ w5, w5 = wr := ⟨_, rfl⟩
      go_wp2_with fail
      clear cb0 cb1
      go_loopw [4] (fun i wx => ∃ j : Nat, j ≤ n ∧ i = .int .i64 j ∧ Hid (casN S k no hr wi fn F rn R j = true) ∧ Below (w.heap.size + 1) w5 wx) (fun i _ => n - (intOf i).toNat)
      case atStart => exact ⟨0, Nat.zero_le _, rfl, Lib.hid rfl, Below.refl _ _⟩
      case round =>
        obtain ⟨j, hj, rfl, HC, hb⟩ := hrel
        have HBL := Lib.hid hb
        have HB1 := Lib.hid (HB0.out.trans (hb.mono (by omega)))
        have HK1 := Lib.hid (HK0.out.below hb (by omega))
        clear hb
        have hs1 := HK1.out.lt
        have cb0 : wr.cell? ⟨w.heap.size, 0, none⟩ = some (.slice SA k sc) := HK1.out.cell 0
        have cb1 : wr.cell? ⟨w.heap.size, 1, none⟩ = some (.slice CA n cc) := HK1.out.cell 1
        by_cases hltj : j < n
        · have hltj' : (j : Int) < n := by omega
          obtain ⟨b, o, e, hbb, k0, k1, k2, k3, k4⟩ := (HR.out.below (HB1.out.mono hB)).at_ hltj
          subst e
          go_upto_region 12 with fail
          obtain ⟨wx2, hwx⟩ : ∃ zz, zz = wr.alloc (.cells #[.int .i64 (no j), .int .i64 (hr j), .int .i64 (wi j), .slice (FA j) (fn j) (fc j), .slice (RA j) (rn j) (rc j)] 44) := ⟨_, rfl⟩
          have HX : Hid (Blk wx2 wr.heap.size 44 #[.int .i64 (no j), .int .i64 (hr j), .int .i64 (wi j), .slice (FA j) (fn j) (fc j), .slice (RA j) (rn j) (rc j)]) := Lib.hid (hwx ▸ Blk.new _ _ _)
          have hb : Below wr.heap.size wr wx2 := hwx ▸ below_alloc _ _
          rw [← hwx]
          have HBL2 := Lib.hid (HBL.out.trans (hb.mono (by omega)))
          have HB2 := Lib.hid (HB1.out.trans (hb.mono (by omega)))
          have HK2 := Lib.hid (HK1.out.below hb hs1)
          clear hwx hb HBL HB1 HK1 cb0 cb1 k0 k1 k2 k3 k4
          have hs2 := HX.out.lt
          have hz2 := HB2.out.size
          have cb0 : wx2.cell? ⟨w.heap.size, 0, none⟩ = some (.slice SA k sc) := HK2.out.cell 0
          have cb1 : wx2.cell? ⟨w.heap.size, 1, none⟩ = some (.slice (some ⟨b, o, none⟩) n cc) := HK2.out.cell 1
          have cx0 : wx2.cell? ⟨wr.heap.size, 0, none⟩ = some (.int .i64 (no j)) := HX.out.cell 0
          have cx1 : wx2.cell? ⟨wr.heap.size, 1, none⟩ = some (.int .i64 (hr j)) := HX.out.cell 1
          have cx2 : wx2.cell? ⟨wr.heap.size, 2, none⟩ = some (.int .i64 (wi j)) := HX.out.cell 2
          have cx3 : wx2.cell? ⟨wr.heap.size, 3, none⟩ = some (.slice (FA j) (fn j) (fc j)) := HX.out.cell 3
          have cx4 : wx2.cell? ⟨wr.heap.size, 4, none⟩ = some (.slice (RA j) (rn j) (rc j)) := HX.out.cell 4
          have HBAD : Hid (casB S k no hr wi fn F rn R j = false → chkE S k n no hr wi fn F rn R = 520) := Lib.hid (chk_bad HZ.out hltj)
          go_wp2_with fail
          refine (within_0 _ _ _).mono ?_
          rintro e w' ⟨rfl, rfl⟩
          cases h1 : inB 1048576 (no j)
          · have HE := Lib.hid (HBAD.out (by simp [casB, numB, h1]))
            clear h1
            go_wp2_with fail
            go_ret
            exact ⟨ret_int HE.out.symm, HB2.out⟩
          go_wp2_with fail
          refine (within_0 _ _ _).mono ?_
          rintro e w' ⟨rfl, rfl⟩
          cases h2 : inB 4096 (hr j)
          · have HE := Lib.hid (HBAD.out (by simp [casB, numB, h2]))
            clear h2
            go_wp2_with fail
            go_ret
            exact ⟨ret_int HE.out.symm, HB2.out⟩
          go_wp2_with fail
          refine (within_0 _ _ _).mono ?_
          rintro e w' ⟨rfl, rfl⟩
          cases h3 : inB 1 (wi j)
          · have HE := Lib.hid (HBAD.out (by simp [casB, numB, h3]))
            clear h3
            go_wp2_with fail
            go_ret
            exact ⟨ret_int HE.out.symm, HB2.out⟩
          have HNUM : Hid (numB no hr wi j = true) := Lib.hid (by simp [numB, h1, h2, h3])
          clear h1 h2 h3
          go_upto_region 14 with fail
          go_cut [84] (fun s84 wc => s84 = .bool (!ordB no hr j) ∧ ∃ q, wc = wx2.drewN q)
          case first =>
            cases j with
            | zero =>
              go_quiet (fail)
              go_wp2_with fail
              go_meet
              case rel => exact ⟨rfl, _, rfl⟩
            | succ i =>
              obtain ⟨l0, l1, _⟩ := RdK.here (HR.out.below (HB2.out.mono hB)) (show i < n by omega)
              have hwj : IntKind.i64.wrap (((i + 1 : Nat) : Int) - 1) = i := by rw [show ((i + 1 : Nat) : Int) - 1 = i by omega]; exact IntWalk.i64_in _ ⟨by omega, by omega⟩
              by_cases h1 : no (i + 1) ≤ no i
              · have HV : Hid (ordB no hr (i + 1) = false) := Lib.hid (by simp [ordB]; omega)
                have hd : decide (no (i + 1) ≤ no i) = true := by simpa using h1
                clear h1
                go_quiet (fail)
                go_wp2_with fail
                go_meet
                case rel => exact ⟨by rw [HV.out]; rfl, _, rfl⟩
              · have hd : decide (no (i + 1) ≤ no i) = false := by simpa using h1
                by_cases h2 : hr (i + 1) < hr i
                · have HV : Hid (ordB no hr (i + 1) = false) := Lib.hid (by simp [ordB]; omega)
                  have hd2 : decide (hr (i + 1) < hr i) = true := by simpa using h2
                  clear h1 h2
                  go_quiet (fail)
                  go_wp2_with fail
                  go_meet
                  case rel => exact ⟨by rw [HV.out]; rfl, _, rfl⟩
                · have HV : Hid (ordB no hr (i + 1) = true) := Lib.hid (by simp [ordB]; omega)
                  have hd2 : decide (hr (i + 1) < hr i) = false := by simpa using h2
                  clear h1 h2
                  go_quiet (fail)
                  go_wp2_with fail
                  go_meet
                  case rel => exact ⟨by rw [HV.out]; rfl, _, rfl⟩
          case rest =>
            obtain ⟨rfl, q, rfl⟩ := hcut
            have HX3 := Lib.hid (HX.out.drewN q)
            have HK3 := Lib.hid (HK2.out.drewN q)
            have HB3 := Lib.hid (below_quiet HB2.out ⟨q, rfl⟩)
            have HBL3 := Lib.hid (below_quiet HBL2.out ⟨q, rfl⟩)
            clear HX HK2 HB2 HBL2 cb0 cb1 cx0 cx1 cx2 cx3 cx4
            generalize wx2.drewN q = w3 at HX3 HK3 HB3 HBL3 ⊢
            have hs3 := HX3.out.lt
            have hz3 := HB3.out.size
            cases h4 : ordB no hr j
            · have HE := Lib.hid (HBAD.out (by simp [casB, h4]))
              clear h4
              go_wp2_with fail
              go_ret
              exact ⟨ret_int HE.out.symm, HB3.out⟩
            have hbase : w.heap.size < wr.heap.size := by omega
            have cb0 : w3.cell? ⟨w.heap.size, 0, none⟩ = some (.slice SA k sc) := HK3.out.cell 0
            have cb1 : w3.cell? ⟨w.heap.size, 1, none⟩ = some (.slice (some ⟨b, o, none⟩) n cc) := HK3.out.cell 1
            have cx2 : w3.cell? ⟨wr.heap.size, 2, none⟩ = some (.int .i64 (wi j)) := HX3.out.cell 2
            have cx3 : w3.cell? ⟨wr.heap.size, 3, none⟩ = some (.slice (FA j) (fn j) (fc j)) := HX3.out.cell 3
            have cx4 : w3.cell? ⟨wr.heap.size, 4, none⟩ = some (.slice (RA j) (rn j) (rc j)) := HX3.out.cell 4
            go_wp2_with fail
            refine (Set_31 SA (some ⟨b, o, none⟩) (FA j) k sc n cc (fn j) (fc j) B (F j) _ (by omega) (by have := HSM.out j hltj; omega) (by omega) ((HR.out.below (HB3.out.mono hB)).2.2 j hltj).1).mono ?_
            rintro e w4 ⟨rfl, hb⟩
            have HX4 := Lib.hid (HX3.out.below hb hs3)
            have HK4 := Lib.hid (HK3.out.below hb (by omega))
            have HB4 := Lib.hid (HB3.out.trans (hb.mono hz3))
            have HBL4 := Lib.hid (HBL3.out.trans (hb.mono (by omega)))
            clear hb cb0 cb1 cx2 cx3 cx4 HX3 HK3 HB3 HBL3
            have hs4 := HX4.out.lt
            have hz4 := HB4.out.size
            cases h5 : okS k (F j) (fn j)
            · have HE := Lib.hid (HBAD.out (by simp [casB, h5]))
              clear h5 h4
              go_wp2_with fail
              go_ret
              exact ⟨ret_int HE.out.symm, HB4.out⟩
            have cb0 : w4.cell? ⟨w.heap.size, 0, none⟩ = some (.slice SA k sc) := HK4.out.cell 0
            have cb1 : w4.cell? ⟨w.heap.size, 1, none⟩ = some (.slice (some ⟨b, o, none⟩) n cc) := HK4.out.cell 1
            have cx2 : w4.cell? ⟨wr.heap.size, 2, none⟩ = some (.int .i64 (wi j)) := HX4.out.cell 2
            have cx3 : w4.cell? ⟨wr.heap.size, 3, none⟩ = some (.slice (FA j) (fn j) (fc j)) := HX4.out.cell 3
            have cx4 : w4.cell? ⟨wr.heap.size, 4, none⟩ = some (.slice (RA j) (rn j) (rc j)) := HX4.out.cell 4
            go_wp2_with fail
            refine (reason_32 SA (some ⟨b, o, none⟩) (FA j) (RA j) k sc n cc (fn j) (fc j) (rn j) (rc j) B S (F j) (R j) (wi j) _ (by omega) (by have := HSM.out j hltj; omega) (by have := HSM.out j hltj; omega) (by omega) (HR.out.below (HB4.out.mono hB)).1 ((HR.out.below (HB4.out.mono hB)).2.2 j hltj).1 ((HR.out.below (HB4.out.mono hB)).2.2 j hltj).2).mono ?_
            rintro e w6 ⟨rfl, hb⟩
            have HB6 := Lib.hid (HB4.out.trans (hb.mono hz4))
            have HBL6 := Lib.hid (HBL4.out.trans (hb.mono (by omega)))
            clear hb cb0 cb1 cx2 cx3 cx4 HX4 HK4 HB4 HBL4
            cases h6 : reaB S k (F j) (fn j) (R j) (rn j) (wi j)
            · have HE := Lib.hid (HBAD.out (by simp [casB, h6]))
              clear h6 h5 h4
              go_wp2_with fail
              go_ret
              exact ⟨ret_int HE.out.symm, HB6.out⟩
            have HV : Hid (casN S k no hr wi fn F rn R (j + 1) = true) := Lib.hid (by simp [casN, casB, HC.out, HNUM.out, h4, h5, h6])
            clear h4 h5 h6
            go_wp2_with fail
            go_roundw
            case rel => exact ⟨j + 1, by omega, by go_num, HV, HBL6.out⟩
            case measure => simp [intOf]; omega
        · obtain rfl : j = n := by omega
          have HE := Lib.hid (chk_ok HZ.out HK.out HC.out)
          go_wp2_with fail
          go_ret
          exact ⟨ret_int HE.out.symm, HB1.out⟩
end Go.Proofs.Ytbojjhdcmogjdaa
