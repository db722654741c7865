/- Contract of the reference's Binds. -/
import Derived.Test.YtbojjhdcmogjdaaFavour
namespace Go.Proofs.Ytbojjhdcmogjdaa
open Go.RowKit

/-- does case j bind a side, as lists -/
def bndL (S : Nat → Int) (wi : Nat → Int) (fn : Nat → Nat) (F : Nat → Nat → Int) (rn : Nat → Nat) (R : Nat → Nat → Int) (l : Nat → Int) (m : Nat) (side : Int) (j : Nat) : Bool :=
  (decide (wi j = side) && allB (R j) l m (rn j)) && decide ((fltL (misP S (wi j) (F j) (fn j)) l m).length = 0)

set_option maxRecDepth 100000 in
set_option maxHeartbeats 4000000 in
theorem ref_Binds_16 {SA CA : Option Addr} {sn sc n cc : Nat} {S no hr wi : Nat → Int} {FA RA : Nat → Option Addr} {fn fc rn rc : Nat → Nat} {F R : Nat → Nat → Int} (B : Nat) (A : Option Addr) (m c : Nat) (l : Nat → Int) (side : Int) (w : World) (hs : SmK sn n fn rn) (hm : m ≤ 1000) (hB : B ≤ w.heap.size) (hr0 : RdK w B SA sn S CA n no hr wi FA fn fc F RA rn rc R) (hf : Rd w B A m (fun j => .int .i64 (l j))) :
    Calls Try.prog 16 #[(.agg #[.slice SA sn sc, .slice CA n cc]), .slice A m c, .int .i64 side] w fun e w' => e = .returned (bdV (askE (chkE S sn n no hr wi fn F rn R) sn l m side) (fstB (bndL S wi fn F rn R l m side) 0 n)) ∧ Below w.heap.size w w' := by
  have HX : Hid (∀ W, Below w.heap.size w W → Calls Try.prog 37 #[(.agg #[.slice SA sn sc, .slice CA n cc]), .slice A m c, .int .i64 side] W fun e w' => e = .returned (.int .i64 (askE (chkE S sn n no hr wi fn F rn R) sn l m side)) ∧ Below W.heap.size W w') := Lib.hid fun W h =>
    asked_37 B A m c l side W hs hm (Nat.le_trans hB h.size) (hr0.below (h.mono hB)) (hf.below (h.mono hB))
  have HK : Hid (∀ W j, j < n → Below w.heap.size w W → ∃ b off, CA = some ⟨b, off, none⟩ ∧ b < B ∧ W.cell? ⟨b, off + j * 5, none⟩ = some (.int .i64 (no j)) ∧ W.cell? ⟨b, off + j * 5 + 1, none⟩ = some (.int .i64 (hr j)) ∧
    W.cell? ⟨b, off + j * 5 + 2, none⟩ = some (.int .i64 (wi j)) ∧ W.cell? ⟨b, off + j * 5 + 3, none⟩ = some (.slice (FA j) (fn j) (fc j)) ∧ W.cell? ⟨b, off + j * 5 + 4, none⟩ = some (.slice (RA j) (rn j) (rc j))) := Lib.hid fun W j hj h => (hr0.below (h.mono hB)).at_ hj
  have HALL : Hid (∀ W j, j < n → Below w.heap.size w W → Calls Try.prog 24 #[.slice (RA j) (rn j) (rc j), .slice A m c] W fun e w' => e = .returned (.bool (allB (R j) l m (rn j))) ∧ W = w') := Lib.hid fun W j hj h =>
    All_24 (RA j) A (rn j) (rc j) m c B (R j) l W (by have := (hs.2.2 j hj).2; omega) (by omega) ((hr0.below (h.mono hB)).2.2 j hj).2 (hf.below (h.mono hB))
  have HMIS : Hid (askE (chkE S sn n no hr wi fn F rn R) sn l m side = 0 → ∀ W j, j < n → Below w.heap.size w W → Calls Try.prog 38 #[(.agg #[.slice SA sn sc, .slice CA n cc]), .agg #[.int .i64 (no j), .int .i64 (hr j), .int .i64 (wi j), .slice (FA j) (fn j) (fc j), .slice (RA j) (rn j) (rc j)], .slice A m c] W fun e w' => (∃ A' k' c', e = .returned (.slice A' k' c') ∧ k' = (fltL (misP S (wi j) (F j) (fn j)) l m).length) ∧ Below W.heap.size W w') := Lib.hid fun h0 W j hj h => by
    obtain ⟨_, h2, _⟩ := askE_zero h0
    have h3 := hr0.below (h.mono hB)
    refine (Missing_38 SA CA (FA j) (RA j) A sn sc n cc (fn j) (fc j) (rn j) (rc j) m c B S (F j) l (no j) (hr j) (wi j) W (by have := (hs.2.2 j hj).1; omega) hm (Nat.le_trans hB h.size) h3.1 (h3.2.2 j hj).1 (hf.below (h.mono hB)) (fun k hk => (okS_at m h2 k hk).1)).mono ?_
    rintro e w' ⟨⟨A', k', c', h4, h5, _⟩, h6⟩
    exact ⟨⟨A', k', c', h4, h5⟩, h6⟩
  have HN : Hid (askE (chkE S sn n no hr wi fn F rn R) sn l m side = 0 → n ≤ 64) := Lib.hid fun h => (chk_zero (askE_zero h).1).2.1
  have HP : Hid (∀ j, bndL S wi fn F rn R l m side j = ((decide (wi j = side) && allB (R j) l m (rn j)) && decide ((fltL (misP S (wi j) (F j) (fn j)) l m).length = 0))) := Lib.hid fun j => rfl
  clear hs hr0 hf
  generalize askE (chkE S sn n no hr wi fn F rn R) sn l m side = E at HX HMIS HN ⊢
  generalize bndL S wi fn F rn R l m side = p at HP ⊢
  obtain ⟨o, ho⟩ : ∃ o, o = fstB p 0 n := ⟨_, rfl⟩
  rw [← ho]
  have HO := Lib.hid ho
  clear ho
  go_enter Try.func16, Try.ntmps16
  go_upto_region 1 with fail
  obtain ⟨w0, hw0⟩ : ∃ zz, zz = w.alloc (.cells #[.slice SA sn sc, .slice CA n cc] 25) := ⟨_, rfl⟩
  have HK0 : Hid (Blk w0 w.heap.size 25 #[.slice SA sn sc, .slice CA n cc]) := Lib.hid (hw0 ▸ Blk.new _ _ _)
  have HB0 : Hid (Below w.heap.size w w0) := Lib.hid (hw0 ▸ below_alloc _ _)
  rw [← hw0]
  clear hw0
  have hs0 := HK0.out.lt
  have hz0 := HB0.out.size
  have cb0 : w0.cell? ⟨w.heap.size, 0, none⟩ = some (.slice SA sn sc) := HK0.out.cell 0
  have cb1 : w0.cell? ⟨w.heap.size, 1, none⟩ = some (.slice CA n cc) := HK0.out.cell 1
  go_wp2_with fail
  refine (HX.out _ HB0.out).mono ?_
  rintro e w1 ⟨rfl, hb⟩
  have HK1 := Lib.hid (HK0.out.below hb hs0)
  have HB1 := Lib.hid (HB0.out.trans (hb.mono hz0))
  clear hb HK0 HB0 cb0 cb1
  have hs1 := HK1.out.lt
  have hz1 := HB1.out.size
  by_cases hE : E = 0
  · have h64 := HN.out hE
    have HMI := Lib.hid (HMIS.out hE)
    have HV : Hid (bdV E o = .tuple #[.int .i64 (o.getD 0 : Nat), .bool o.isSome, .int .i64 0]) := Lib.hid (by rw [hE]; simp [bdV])
    subst hE
    clear HX HMIS HN
    go_wp2_with fail
    go_loopw [10] (fun i wr => ∃ k : Nat, k ≤ n ∧ i = .int .i64 k ∧ Hid (∀ j, 0 ≤ j → j < k → p j = false) ∧ Below w1.heap.size w1 wr) (fun i _ => n - (intOf i).toNat)
    case atStart => exact ⟨0, Nat.zero_le _, rfl, Lib.hid fun j h1 h2 => by omega, Below.refl _ _⟩
    case round =>
      obtain ⟨k, hk, rfl, HKK, hb⟩ := hrel
      have HBL := Lib.hid hb
      have HB2 := Lib.hid (HB1.out.trans (hb.mono hz1))
      have HK2 := Lib.hid (HK1.out.below hb hs1)
      have hz2 := hb.size
      clear hb
      have cb0 : wr.cell? ⟨w.heap.size, 0, none⟩ = some (.slice SA sn sc) := HK2.out.cell 0
      have cb1 : wr.cell? ⟨w.heap.size, 1, none⟩ = some (.slice CA n cc) := HK2.out.cell 1
      by_cases hlt : k < n
      · have hlt' : (k : Int) < n := by omega
        have HALK := Lib.hid (fun W => HALL.out W k hlt)
        have HMK := Lib.hid (fun W => HMI.out W k hlt)
        have HPK := Lib.hid (HP.out k)
        obtain ⟨b, off, e, _, c0, c1, c2, c3, c4⟩ := HK.out wr k hlt HB2.out
        subst e
        go_upto_region 8 with fail
        obtain ⟨w3, hw3⟩ : ∃ zz, zz = wr.alloc (.cells #[.int .i64 (no k), .int .i64 (hr k), .int .i64 (wi k), .slice (FA k) (fn k) (fc k), .slice (RA k) (rn k) (rc k)] 44) := ⟨_, rfl⟩
        have HC3 : Hid (Blk w3 wr.heap.size 44 #[.int .i64 (no k), .int .i64 (hr k), .int .i64 (wi k), .slice (FA k) (fn k) (fc k), .slice (RA k) (rn k) (rc k)]) := Lib.hid (hw3 ▸ Blk.new _ _ _)
        have hb : Below wr.heap.size wr w3 := hw3 ▸ below_alloc _ _
        have HK3 := Lib.hid (HK2.out.below hb HK2.out.lt)
        have HB3 := Lib.hid (HB2.out.trans (hb.mono HB2.out.size))
        have HBL3 := Lib.hid (HBL.out.trans (hb.mono hz2))
        rw [← hw3]
        clear hw3 hb HK2 HB2 HBL cb0 cb1 c0 c1 c2 c3 c4
        have cb0 : w3.cell? ⟨w.heap.size, 0, none⟩ = some (.slice SA sn sc) := HK3.out.cell 0
        have cb1 : w3.cell? ⟨w.heap.size, 1, none⟩ = some (.slice (some ⟨b, off, none⟩) n cc) := HK3.out.cell 1
        have cc0 : w3.cell? ⟨wr.heap.size, 0, none⟩ = some (.int .i64 (no k)) := HC3.out.cell 0
        have cc1 : w3.cell? ⟨wr.heap.size, 1, none⟩ = some (.int .i64 (hr k)) := HC3.out.cell 1
        have cc2 : w3.cell? ⟨wr.heap.size, 2, none⟩ = some (.int .i64 (wi k)) := HC3.out.cell 2
        have cc3 : w3.cell? ⟨wr.heap.size, 3, none⟩ = some (.slice (FA k) (fn k) (fc k)) := HC3.out.cell 3
        have cc4 : w3.cell? ⟨wr.heap.size, 4, none⟩ = some (.slice (RA k) (rn k) (rc k)) := HC3.out.cell 4
        have HNO : Hid (p k = false → ∀ j, 0 ≤ j → j < k + 1 → p j = false) := Lib.hid fun h j h1 h2 => by
          by_cases e : j = k
          · subst e; exact h
          · exact HKK.out j h1 (by omega)
        have HYES : Hid (p k = true → o = some k) := Lib.hid fun h => by
          have h1 := fstB_skip (p := p) k 0 ((n - k - 1) + 1) (fun j h2 h3 => HKK.out j h2 (by omega))
          rw [HO.out, show n = k + ((n - k - 1) + 1) by omega, h1, fstB, if_pos (by rw [Nat.zero_add]; exact h), Nat.zero_add]
        by_cases h1 : wi k = side
        · have HP2 : Hid (p k = (allB (R k) l m (rn k) && decide ((fltL (misP S (wi k) (F k) (fn k)) l m).length = 0))) := Lib.hid (by rw [HPK.out]; simp [h1])
          generalize (fltL (misP S (wi k) (F k) (fn k)) l m).length = q at HP2 HMK
          generalize wi k = x at *
          subst h1
          go_wp2_with fail
          refine (HALK.out w3 HB3.out).mono ?_
          rintro e w' ⟨rfl, rfl⟩
          cases h2 : allB (R k) l m (rn k)
          · have HN1 := Lib.hid (HNO.out (by rw [HP2.out, h2]; rfl))
            clear h2
            go_wp2_with fail
            go_roundw
            case rel => exact ⟨k + 1, by omega, by go_num, HN1, HBL3.out⟩
            case measure => simp [intOf]; omega
          go_wp2_with fail
          refine (HMK.out w3 HB3.out).mono ?_
          rintro e w4 ⟨⟨A', k', c', rfl, rfl⟩, hb⟩
          have HBL4 := Lib.hid (HBL3.out.trans (hb.mono HBL3.out.size))
          clear hb
          by_cases h3 : k' = 0
          · have HS := Lib.hid (HYES.out (by rw [HP2.out, h2]; simp [h3]))
            subst h3
            go_wp2_with fail
            refine bodyPost_ret (results_tmp3' rfl _ _ _) rfl ?_
            exact ⟨ret_val (by rw [HV.out, HS.out]; rfl), HB1.out.trans (HBL4.out.mono hz1)⟩
          · have h3' : ((k' : Int) == 0) = false := by simp; omega
            have HN1 := Lib.hid (HNO.out (by rw [HP2.out]; simp [h3]))
            clear h2 h3
            go_wp2_with fail
            go_roundw
            case rel => exact ⟨k + 1, by omega, by go_num, HN1, HBL4.out⟩
            case measure => simp [intOf]; omega
        · have h1' : (wi k == side) = false := by simpa using h1
          have HN1 := Lib.hid (HNO.out (by rw [HPK.out]; simp [h1]))
          clear h1
          go_wp2_with fail
          go_roundw
          case rel => exact ⟨k + 1, by omega, by go_num, HN1, HBL3.out⟩
          case measure => simp [intOf]; omega
      · obtain rfl : k = n := by omega
        have HS : Hid (o = none) := Lib.hid (by
          have h1 := fstB_skip (p := p) k 0 0 (fun j h2 h3 => HKK.out j h2 (by omega))
          rw [Nat.add_zero] at h1
          rw [HO.out, h1]; rfl)
        go_wp2_with fail
        refine bodyPost_ret (results_tmp3' rfl _ _ _) rfl ?_
        exact ⟨ret_val (by rw [HV.out, HS.out]; rfl), HB2.out⟩
  · have HV : Hid (∀ o, bdV E o = .tuple #[.int .i64 0, .bool false, .int .i64 E]) := Lib.hid fun o => by simp [bdV, hE]
    have hE' : (E != 0) = true := by simpa using hE
    clear hE
    go_wp2_with fail
    refine bodyPost_ret (results_tmp3' rfl _ _ _) rfl ?_
    exact ⟨ret_val (HV.out _).symm, HB1.out⟩
end Go.Proofs.Ytbojjhdcmogjdaa
