/- Contract of the reference's Clash. -/
import Derived.Test.YtbojjhdcmogjdaaClash
import Derived.Test.YtbojjhdcmogjdaaRefClash
import Derived.StillTailTactics
namespace Go.Proofs.Ytbojjhdcmogjdaa
open Go.RowKit

/-- do cases i and j clash, as lists -/
def clsL (wi : Nat → Int) (fn : Nat → Nat) (F : Nat → Nat → Int) (rn : Nat → Nat) (R : Nat → Nat → Int) (i j : Nat) : Bool :=
  claL (wi i) (wi j) (F i) (fn i) (R i) (rn i) (F j) (fn j) (R j) (rn j)
theorem results_tmp4i {fn : Func} {t u v x : Tmp} (h : fn.results = #[.tmp t, .tmp u, .tmp v, .tmp x]) (tmps : Array Value) (P : Program) (w : World) :
    (results fn tmps).run P w = .ok (.tuple #[tmps.getD t undef, tmps.getD u undef, tmps.getD v undef, tmps.getD x undef]) w := by simp [results, h]

set_option maxRecDepth 100000 in
set_option maxHeartbeats 4000000 in
theorem ref_Clash_12 {SA CA : Option Addr} {sn sc n cc : Nat} {S no hr wi : Nat → Int} {FA RA : Nat → Option Addr} {fn fc rn rc : Nat → Nat} {F R : Nat → Nat → Int} (B : Nat) (w : World) (hs : SmK sn n fn rn) (hB : B ≤ w.heap.size) (hr0 : RdK w B SA sn S CA n no hr wi FA fn fc F RA rn rc R) :
    Calls Try.prog 12 #[(.agg #[.slice SA sn sc, .slice CA n cc])] w fun e w' => e = .returned (clV (chkE S sn n no hr wi fn F rn R) (prB (clsL wi fn F rn R) n 0 n)) ∧ Below w.heap.size w w' := by
  have HX : Hid (∀ W, Below w.heap.size w W → Calls Try.prog 14 #[(.agg #[.slice SA sn sc, .slice CA n cc])] W fun e w' => e = .returned (.int .i64 (chkE S sn n no hr wi fn F rn R)) ∧ Below W.heap.size W w') := Lib.hid fun W h => ref_Check_14 B W hs (Nat.le_trans hB h.size) (hr0.below (h.mono hB))
  have HK : Hid (∀ W j, j < n → Below w.heap.size w W → ∃ b off, CA = some ⟨b, off, none⟩ ∧ b < B ∧ W.cell? ⟨b, off + j * 5, none⟩ = some (.int .i64 (no j)) ∧ W.cell? ⟨b, off + j * 5 + 1, none⟩ = some (.int .i64 (hr j)) ∧
    W.cell? ⟨b, off + j * 5 + 2, none⟩ = some (.int .i64 (wi j)) ∧ W.cell? ⟨b, off + j * 5 + 3, none⟩ = some (.slice (FA j) (fn j) (fc j)) ∧ W.cell? ⟨b, off + j * 5 + 4, none⟩ = some (.slice (RA j) (rn j) (rc j))) := Lib.hid fun W j hj h => (hr0.below (h.mono hB)).at_ hj
  have HCL : Hid (∀ W i j, i < n → j < n → Below w.heap.size w W → Calls Try.prog 29 #[.agg #[.int .i64 (no i), .int .i64 (hr i), .int .i64 (wi i), .slice (FA i) (fn i) (fc i), .slice (RA i) (rn i) (rc i)], .agg #[.int .i64 (no j), .int .i64 (hr j), .int .i64 (wi j), .slice (FA j) (fn j) (fc j), .slice (RA j) (rn j) (rc j)]] W
      fun e w' => e = .returned (.bool (clsL wi fn F rn R i j)) ∧ Below W.heap.size W w') := Lib.hid fun W i j hi hj h => by
    have h3 := hr0.below (h.mono hB)
    exact Clashing_29 (no i) (hr i) (wi i) (no j) (hr j) (wi j) (FA i) (RA i) (FA j) (RA j) (fn i) (fc i) (rn i) (rc i) (fn j) (fc j) (rn j) (rc j) B (F i) (R i) (F j) (R j) W (by have := (hs.2.2 i hi).1; omega) (by have := (hs.2.2 i hi).2; omega) (by have := (hs.2.2 j hj).1; omega) (by have := (hs.2.2 j hj).2; omega) (Nat.le_trans hB h.size)
      (h3.2.2 i hi).1 (h3.2.2 i hi).2 (h3.2.2 j hj).1 (h3.2.2 j hj).2
  have HN : Hid ((chkE S sn n no hr wi fn F rn R) = 0 → n ≤ 64) := Lib.hid fun h => (chk_zero h).2.1
  clear hs hr0
  generalize (chkE S sn n no hr wi fn F rn R) = E at HX HN ⊢
  generalize clsL wi fn F rn R = p at HCL ⊢
  obtain ⟨o, ho⟩ : ∃ o, o = prB p n 0 n := ⟨_, rfl⟩
  rw [← ho]
  have HO := Lib.hid ho
  clear ho
  go_enter Try.func12, Try.ntmps12
  go_upto_region 1 with fail
  obtain ⟨w0, hw0⟩ : ∃ zz, zz = w.alloc (.cells #[.slice SA sn sc, .slice CA n cc] 25) := ⟨_, rfl⟩
  have HK0 : Hid (Blk w0 w.heap.size 25 #[.slice SA sn sc, .slice CA n cc]) := Lib.hid (hw0 ▸ Blk.new _ _ _)
  have HB0 : Hid (Below w.heap.size w w0) := Lib.hid (hw0 ▸ below_alloc _ _)
  rw [← hw0]
  clear hw0
  have hs0 := HK0.out.lt
  have hz0 := HB0.out.size
  have cb0 : w0.cell? ⟨w.heap.size, 0, none⟩ = some (.slice SA sn sc) := HK0.out.cell 0
  have cb1 : w0.cell? ⟨w.heap.size, 1, none⟩ = some (.slice CA n cc) := HK0.out.cell 1
  go_wp2_with fail
  refine (HX.out _ HB0.out).mono ?_
  rintro e w1 ⟨rfl, hb⟩
  have HK1 := Lib.hid (HK0.out.below hb hs0)
  have HB1 := Lib.hid (HB0.out.trans (hb.mono hz0))
  clear hb HK0 HB0 cb0 cb1
  have hs1 := HK1.out.lt
  have hz1 := HB1.out.size
  by_cases hE : E = 0
  · have h64 := HN.out hE
    subst hE
    clear HX HN
    go_wp2_with fail
    go_loopw [7] (fun i wr => ∃ k : Nat, k ≤ n ∧ i = .int .i64 k ∧ Hid (∀ j, j < k → fstB (p j) (j + 1) (n - (j + 1)) = none) ∧ Below w1.heap.size w1 wr) (fun i _ => n - (intOf i).toNat)
    case atStart => exact ⟨0, Nat.zero_le _, rfl, Lib.hid fun j h1 => by omega, Below.refl _ _⟩
    case round =>
      obtain ⟨k, hk, rfl, HKK, hb⟩ := hrel
      have HBL := Lib.hid hb
      have HB2 := Lib.hid (HB1.out.trans (hb.mono hz1))
      have HK2 := Lib.hid (HK1.out.below hb hs1)
      have hz2 := hb.size
      clear hb
      have cb0 : wr.cell? ⟨w.heap.size, 0, none⟩ = some (.slice SA sn sc) := HK2.out.cell 0
      have cb1 : wr.cell? ⟨w.heap.size, 1, none⟩ = some (.slice CA n cc) := HK2.out.cell 1
      by_cases hlt : k < n
      · have hlt' : (k : Int) < n := by omega
        go_upto_region 8 with fail
        clear cb0 cb1 HK2
        go_loopw [8] (fun i wx => ∃ q : Nat, k + 1 ≤ q ∧ q ≤ n ∧ i = .int .i64 q ∧ Hid (∀ j, k + 1 ≤ j → j < q → p k j = false) ∧ Below w1.heap.size w1 wx) (fun i _ => n - (intOf i).toNat)
        case atStart => exact ⟨k + 1, Nat.le_refl _, by omega, by go_num, Lib.hid fun j h1 h2 => by omega, HBL.out⟩
        case round =>
          obtain ⟨q, hq0, hq, rfl, HQQ, hb⟩ := hrel
          have HBL3 := Lib.hid hb
          have HB3 := Lib.hid (HB1.out.trans (hb.mono hz1))
          have HK3 := Lib.hid (HK1.out.below hb hs1)
          have hz3 := hb.size
          clear hb
          have cb0 : wr.cell? ⟨w.heap.size, 0, none⟩ = some (.slice SA sn sc) := HK3.out.cell 0
          have cb1 : wr.cell? ⟨w.heap.size, 1, none⟩ = some (.slice CA n cc) := HK3.out.cell 1
          by_cases hlq : q < n
          · have hlq' : (q : Int) < n := by omega
            obtain ⟨b, off, e, _, c0, c1, c2, c3, c4⟩ := HK.out wr k hlt HB3.out
            obtain ⟨b', off', e', _, d0, d1, d2, d3, d4⟩ := HK.out wr q hlq HB3.out
            subst e
            cases e'
            have HC := Lib.hid (HCL.out wr.drew k q hlt hlq HB3.out.drew)
            go_upto_region 10 with fail
            go_still_tail 10, (by kernel_rfl)
            change wpList _ _ _ _ _ wr.drew
            have HBL4 : Hid (Below w1.heap.size w1 wr.drew) := Lib.hid HBL3.out.drew
            have HB4 : Hid (Below w.heap.size w wr.drew) := Lib.hid HB3.out.drew
            clear c0 c1 c2 c3 c4 d0 d1 d2 d3 d4 cb0 cb1
            generalize wr.drew = w4 at HC HBL4 HB4 ⊢
            have hz4 := HBL4.out.size
            go_wp2_with fail
            refine HC.out.mono ?_
            rintro e w5 ⟨rfl, hb⟩
            have HBL5 := Lib.hid (HBL4.out.trans (hb.mono hz4))
            have HB5 := Lib.hid (HB4.out.trans (hb.mono HB4.out.size))
            clear hb
            cases h1 : p k q
            · have HN1 : Hid (∀ j, k + 1 ≤ j → j < q + 1 → p k j = false) := Lib.hid fun j h2 h3 => by
                by_cases e : j = q
                · subst e; exact h1
                · exact HQQ.out j h2 (by omega)
              clear h1
              go_wp2_with fail
              go_roundw
              case rel => exact ⟨q + 1, by omega, by omega, by go_num, HN1, HBL5.out⟩
              case measure => simp [intOf]; omega
            · have HV : Hid (clV 0 o = .tuple #[.int .i64 (k : Nat), .int .i64 (q : Nat), .bool true, .int .i64 0]) := Lib.hid (by
                have h2 := fstB_skip (p := p k) (q - (k + 1)) (k + 1) ((n - q - 1) + 1) (fun j h3 h4 => HQQ.out j h3 (by omega))
                rw [show q - (k + 1) + (n - q - 1 + 1) = n - (k + 1) by omega, show k + 1 + (q - (k + 1)) = q by omega, fstB, if_pos h1] at h2
                rw [HO.out, prB_some hlt HKK.out h2]; rfl)
              clear h1
              go_wp2_with fail
              refine bodyPost_ret (results_tmp4i rfl _ _ _) rfl ?_
              exact ⟨ret_val HV.out.symm, HB5.out⟩
          · obtain rfl : q = n := by omega
            have HN2 : Hid (∀ j, j < k + 1 → fstB (p j) (j + 1) (q - (j + 1)) = none) := Lib.hid fun j h1 => by
              by_cases e : j = k
              · subst e
                have h2 := fstB_skip (p := p j) (q - (j + 1)) (j + 1) 0 (fun i h3 h4 => HQQ.out i h3 (by omega))
                exact h2
              · exact HKK.out j (by omega)
            go_wp2_with fail
            go_roundw
            case rel => exact ⟨k + 1, by omega, by go_num, HN2, HBL3.out⟩
            case measure => simp [intOf]; omega
      · obtain rfl : k = n := by omega
        have HV : Hid (clV 0 o = .tuple #[.int .i64 0, .int .i64 0, .bool false, .int .i64 0]) := Lib.hid (by rw [HO.out, prB_none HKK.out]; rfl)
        go_wp2_with fail
        refine bodyPost_ret (results_tmp4i rfl _ _ _) rfl ?_
        exact ⟨ret_val HV.out.symm, HB2.out⟩
  · have HV : Hid (∀ o, clV E o = .tuple #[.int .i64 0, .int .i64 0, .bool false, .int .i64 E]) := Lib.hid fun o => by simp [clV, hE]
    have hE' : (E != 0) = true := by simpa using hE
    clear hE
    go_wp2_with fail
    refine bodyPost_ret (results_tmp4i rfl _ _ _) rfl ?_
    exact ⟨ret_val (HV.out _).symm, HB1.out⟩
end Go.Proofs.Ytbojjhdcmogjdaa
