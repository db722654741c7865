/- Contract of the reference's May. -/
import Derived.Test.YtbojjhdcmogjdaaRefClashes
import Derived.Test.YtbojjhdcmogjdaaMay
namespace Go.Proofs.Ytbojjhdcmogjdaa
open Go.RowKit

/-- does case j clash with a decision, as lists -/
def mayL (wi : Nat → Int) (fn : Nat → Nat) (F : Nat → Nat → Int) (rn : Nat → Nat) (R : Nat → Nat → Int) (l : Nat → Int) (m : Nat) (q : Nat → Int) (k : Nat) (side : Int) (j : Nat) : Bool :=
  claL (wi j) side (F j) (fn j) (R j) (rn j) l m q k

set_option maxRecDepth 100000 in
set_option maxHeartbeats 4000000 in
theorem ref_May_18 {SA CA : Option Addr} {sn sc n cc : Nat} {S no hr wi : Nat → Int} {FA RA : Nat → Option Addr} {fn fc rn rc : Nat → Nat} {F R : Nat → Nat → Int} (B : Nat) (A A' : Option Addr) (m c k c' : Nat) (l q : Nat → Int) (side : Int) (w : World) (hs : SmK sn n fn rn) (hm : m ≤ 1000) (hk : k ≤ 1000) (hB : B ≤ w.heap.size) (hr0 : RdK w B SA sn S CA n no hr wi FA fn fc F RA rn rc R) (hf : Rd w B A m (fun j => .int .i64 (l j))) (hq : Rd w B A' k (fun j => .int .i64 (q j))) :
    Calls Try.prog 18 #[(.agg #[.slice SA sn sc, .slice CA n cc]), .slice A m c, .slice A' k c', .int .i64 side] w fun e w' => e = .returned (myV (mayE (askE (chkE S sn n no hr wi fn F rn R) sn l m side) S sn l m q k side) (fstB (mayL wi fn F rn R l m q k side) 0 n)) ∧ Below w.heap.size w w' := by
  have HX : Hid (∀ W, Below w.heap.size w W → Calls Try.prog 37 #[(.agg #[.slice SA sn sc, .slice CA n cc]), .slice A m c, .int .i64 side] W fun e w' => e = .returned (.int .i64 (askE (chkE S sn n no hr wi fn F rn R) sn l m side)) ∧ Below W.heap.size W w') := Lib.hid fun W h =>
    asked_37 B A m c l side W hs hm (Nat.le_trans hB h.size) (hr0.below (h.mono hB)) (hf.below (h.mono hB))
  have HRE : Hid (∀ W, Below w.heap.size w W → Calls Try.prog 32 #[(.agg #[.slice SA sn sc, .slice CA n cc]), .slice A m c, .slice A' k c', .int .i64 side] W fun e w' => e = .returned (.bool (reaB S sn l m q k side)) ∧ Below W.heap.size W w') := Lib.hid fun W h => by
    exact reason_32 SA CA A A' sn sc n cc m c k c' B S l q side W (by have := hs.1; omega) hm hk (Nat.le_trans hB h.size) (hr0.below (h.mono hB)).1 (hf.below (h.mono hB)) (hq.below (h.mono hB))
  have HK : Hid (∀ W j, j < n → Below w.heap.size w W → ∃ b off, CA = some ⟨b, off, none⟩ ∧ b < B ∧ W.cell? ⟨b, off + j * 5, none⟩ = some (.int .i64 (no j)) ∧ W.cell? ⟨b, off + j * 5 + 1, none⟩ = some (.int .i64 (hr j)) ∧
    W.cell? ⟨b, off + j * 5 + 2, none⟩ = some (.int .i64 (wi j)) ∧ W.cell? ⟨b, off + j * 5 + 3, none⟩ = some (.slice (FA j) (fn j) (fc j)) ∧ W.cell? ⟨b, off + j * 5 + 4, none⟩ = some (.slice (RA j) (rn j) (rc j))) := Lib.hid fun W j hj h => (hr0.below (h.mono hB)).at_ hj
  have HCL : Hid (∀ W j, j < n → Below w.heap.size w W → Calls Try.prog 29 #[.agg #[.int .i64 (no j), .int .i64 (hr j), .int .i64 (wi j), .slice (FA j) (fn j) (fc j), .slice (RA j) (rn j) (rc j)], .agg #[.int .i64 0, .int .i64 0, .int .i64 side, .slice A m c, .slice A' k c']] W
      fun e w' => e = .returned (.bool (mayL wi fn F rn R l m q k side j)) ∧ Below W.heap.size W w') := Lib.hid fun W j hj h => by
    have h3 := hr0.below (h.mono hB)
    exact Clashing_29 (no j) (hr j) (wi j) 0 0 side (FA j) (RA j) A A' (fn j) (fc j) (rn j) (rc j) m c k c' B (F j) (R j) l q W (by have := (hs.2.2 j hj).1; omega) (by have := (hs.2.2 j hj).2; omega) hm hk (Nat.le_trans hB h.size)
      (h3.2.2 j hj).1 (h3.2.2 j hj).2 (hf.below (h.mono hB)) (hq.below (h.mono hB))
  have HE2 : Hid (askE (chkE S sn n no hr wi fn F rn R) sn l m side = 0 → mayE (askE (chkE S sn n no hr wi fn F rn R) sn l m side) S sn l m q k side = if reaB S sn l m q k side = true then 0 else 520) := Lib.hid fun h => by rw [mayE, if_neg (by simpa using h)]
  have HE3 : Hid (askE (chkE S sn n no hr wi fn F rn R) sn l m side ≠ 0 → mayE (askE (chkE S sn n no hr wi fn F rn R) sn l m side) S sn l m q k side = askE (chkE S sn n no hr wi fn F rn R) sn l m side) := Lib.hid fun h => by rw [mayE, if_pos h]
  have HN : Hid (askE (chkE S sn n no hr wi fn F rn R) sn l m side = 0 → n ≤ 64) := Lib.hid fun h => (chk_zero (askE_zero h).1).2.1
  clear hs hr0 hf hq
  generalize mayE (askE (chkE S sn n no hr wi fn F rn R) sn l m side) S sn l m q k side = E2 at HE2 HE3 ⊢
  generalize askE (chkE S sn n no hr wi fn F rn R) sn l m side = E at HX HN HE2 HE3
  generalize mayL wi fn F rn R l m q k side = p at HCL ⊢
  generalize reaB S sn l m q k side = rb at HRE HE2
  obtain ⟨o, ho⟩ : ∃ o, o = fstB p 0 n := ⟨_, rfl⟩
  rw [← ho]
  have HO := Lib.hid ho
  clear ho
  go_enter Try.func18, Try.ntmps18
  go_upto_region 1 with fail
  obtain ⟨w0, hw0⟩ : ∃ zz, zz = w.alloc (.cells #[.slice SA sn sc, .slice CA n cc] 25) := ⟨_, rfl⟩
  have HK0 : Hid (Blk w0 w.heap.size 25 #[.slice SA sn sc, .slice CA n cc]) := Lib.hid (hw0 ▸ Blk.new _ _ _)
  have HB0 : Hid (Below w.heap.size w w0) := Lib.hid (hw0 ▸ below_alloc _ _)
  rw [← hw0]
  clear hw0
  have hs0 := HK0.out.lt
  have hz0 := HB0.out.size
  have cb0 : w0.cell? ⟨w.heap.size, 0, none⟩ = some (.slice SA sn sc) := HK0.out.cell 0
  have cb1 : w0.cell? ⟨w.heap.size, 1, none⟩ = some (.slice CA n cc) := HK0.out.cell 1
  go_wp2_with fail
  refine (HX.out _ HB0.out).mono ?_
  rintro e w1 ⟨rfl, hb⟩
  have HK1 := Lib.hid (HK0.out.below hb hs0)
  have HB1 := Lib.hid (HB0.out.trans (hb.mono hz0))
  clear hb HK0 HB0 cb0 cb1
  have hs1 := HK1.out.lt
  have hz1 := HB1.out.size
  have cb0 : w1.cell? ⟨w.heap.size, 0, none⟩ = some (.slice SA sn sc) := HK1.out.cell 0
  have cb1 : w1.cell? ⟨w.heap.size, 1, none⟩ = some (.slice CA n cc) := HK1.out.cell 1
  by_cases hE : E = 0
  · have h64 := HN.out hE
    have HF2 := Lib.hid (HE2.out hE)
    subst hE
    clear HX HN HE2 HE3
    go_wp2_with fail
    refine (HRE.out _ HB1.out).mono ?_
    rintro e w2 ⟨rfl, hb⟩
    have HK2 := Lib.hid (HK1.out.below hb hs1)
    have HB2 := Lib.hid (HB1.out.trans (hb.mono hz1))
    clear hb HK1 HB1 cb0 cb1
    have hs2 := HK2.out.lt
    have hz2 := HB2.out.size
    cases rb with
    | false =>
      have HV : Hid (∀ o, myV E2 o = .tuple #[.int .i64 0, .bool false, .int .i64 520]) := Lib.hid fun o => by rw [HF2.out]; simp [myV]
      go_wp2_with fail
      refine bodyPost_ret (results_tmp3' rfl _ _ _) rfl ?_
      exact ⟨ret_val (HV.out _).symm, HB2.out⟩
    | true =>
      have HV : Hid (∀ o, myV E2 o = .tuple #[.int .i64 (o.getD 0 : Nat), .bool o.isNone, .int .i64 0]) := Lib.hid fun o => by rw [HF2.out]; simp [myV]
      go_upto_region 8 with fail
      obtain ⟨w3, hw3⟩ : ∃ zz, zz = w2.alloc (.cells #[.int .i64 0, .int .i64 0, .int .i64 side, .slice A m c, .slice A' k c'] 44) := ⟨_, rfl⟩
      have HC3 : Hid (Blk w3 w2.heap.size 44 #[.int .i64 0, .int .i64 0, .int .i64 side, .slice A m c, .slice A' k c']) := Lib.hid (hw3 ▸ Blk.new _ _ _)
      have hb : Below w2.heap.size w2 w3 := hw3 ▸ below_alloc _ _
      have HK3 := Lib.hid (HK2.out.below hb hs2)
      have HB3 := Lib.hid (HB2.out.trans (hb.mono hz2))
      rw [← hw3]
      clear hw3 hb HK2 HB2 HRE HF2
      have hs3 := HC3.out.lt
      have hz3 := HB3.out.size
      go_wp2_with fail
      go_loopw [14] (fun i wr => ∃ j : Nat, j ≤ n ∧ i = .int .i64 j ∧ Hid (∀ i, 0 ≤ i → i < j → p i = false) ∧ Below w3.heap.size w3 wr) (fun i _ => n - (intOf i).toNat)
      case atStart => exact ⟨0, Nat.zero_le _, rfl, Lib.hid fun j h1 h2 => by omega, Below.refl _ _⟩
      case round =>
        obtain ⟨j, hj, rfl, HKK, hb⟩ := hrel
        have HBL := Lib.hid hb
        have HB4 := Lib.hid (HB3.out.trans (hb.mono hz3))
        have HK4 := Lib.hid (HK3.out.below hb (by omega))
        have HC4 := Lib.hid (HC3.out.below hb hs3)
        have hz4 := hb.size
        clear hb
        have cb0 : wr.cell? ⟨w.heap.size, 0, none⟩ = some (.slice SA sn sc) := HK4.out.cell 0
        have cb1 : wr.cell? ⟨w.heap.size, 1, none⟩ = some (.slice CA n cc) := HK4.out.cell 1
        by_cases hlt : j < n
        · have hlt' : (j : Int) < n := by omega
          obtain ⟨b, off, e, _, c0, c1, c2, c3, c4⟩ := HK.out wr j hlt HB4.out
          subst e
          have d0 : wr.cell? ⟨w2.heap.size, 0, none⟩ = some (.int .i64 0) := HC4.out.cell 0
          have d1 : wr.cell? ⟨w2.heap.size, 1, none⟩ = some (.int .i64 0) := HC4.out.cell 1
          have d2 : wr.cell? ⟨w2.heap.size, 2, none⟩ = some (.int .i64 side) := HC4.out.cell 2
          have d3 : wr.cell? ⟨w2.heap.size, 3, none⟩ = some (.slice A m c) := HC4.out.cell 3
          have d4 : wr.cell? ⟨w2.heap.size, 4, none⟩ = some (.slice A' k c') := HC4.out.cell 4
          have HC := Lib.hid (HCL.out wr.drew j hlt HB4.out.drew)
          go_upto_region 11 with fail
          go_still_tail 6, (by kernel_rfl)
          change wpList _ _ _ _ _ wr.drew
          have HBL5 : Hid (Below w3.heap.size w3 wr.drew) := Lib.hid HBL.out.drew
          have HB5 : Hid (Below w.heap.size w wr.drew) := Lib.hid HB4.out.drew
          clear c0 c1 c2 c3 c4 d0 d1 d2 d3 d4 cb0 cb1
          generalize wr.drew = w5 at HC HBL5 HB5 ⊢
          have hz5 := HBL5.out.size
          go_wp2_with fail
          refine HC.out.mono ?_
          rintro e w6 ⟨rfl, hb⟩
          have HBL6 := Lib.hid (HBL5.out.trans (hb.mono hz5))
          have HB6 := Lib.hid (HB5.out.trans (hb.mono HB5.out.size))
          clear hb
          cases h1 : p j
          · have HN1 : Hid (∀ i, 0 ≤ i → i < j + 1 → p i = false) := Lib.hid fun i h2 h3 => by
              by_cases e : i = j
              · subst e; exact h1
              · exact HKK.out i h2 (by omega)
            clear h1
            go_wp2_with fail
            go_roundw
            case rel => exact ⟨j + 1, by omega, by go_num, HN1, HBL6.out⟩
            case measure => simp [intOf]; omega
          · have HS : Hid (o = some j) := Lib.hid (by
              have h2 := fstB_skip (p := p) j 0 ((n - j - 1) + 1) (fun i h3 h4 => HKK.out i h3 (by omega))
              rw [show j + (n - j - 1 + 1) = n by omega, Nat.zero_add, fstB, if_pos h1] at h2
              exact HO.out.trans h2)
            clear h1
            go_wp2_with fail
            refine bodyPost_ret (results_tmp3' rfl _ _ _) rfl ?_
            exact ⟨ret_val (by rw [HV.out, HS.out]; rfl), HB6.out⟩
        · obtain rfl : j = n := by omega
          have HS : Hid (o = none) := Lib.hid (by
            have h2 := fstB_skip (p := p) j 0 0 (fun i h3 h4 => HKK.out i h3 (by omega))
            exact HO.out.trans h2)
          go_wp2_with fail
          refine bodyPost_ret (results_tmp3' rfl _ _ _) rfl ?_
          exact ⟨ret_val (by rw [HV.out, HS.out]; rfl), HB4.out⟩
  · have HV : Hid (∀ o, myV E2 o = .tuple #[.int .i64 0, .bool false, .int .i64 E]) := Lib.hid fun o => by rw [HE3.out hE]; simp [myV, hE]
    have hE' : (E != 0) = true := by simpa using hE
    clear hE
    go_wp2_with fail
    refine bodyPost_ret (results_tmp3' rfl _ _ _) rfl ?_
    exact ⟨ret_val (HV.out _).symm, HB1.out⟩
end Go.Proofs.Ytbojjhdcmogjdaa
