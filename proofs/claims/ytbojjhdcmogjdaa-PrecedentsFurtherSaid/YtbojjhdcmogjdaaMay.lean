/- Contract of May. -/
import Derived.Test.YtbojjhdcmogjdaaBinds
namespace Go.Proofs.Ytbojjhdcmogjdaa
open Go.RowKit

/-- the error of May -/
def mayE (E : Int) (S : Nat → Int) (sn : Nat) (l : Nat → Int) (m : Nat) (q : Nat → Int) (k : Nat) (side : Int) : Int := if E ≠ 0 then E else if reaB S sn l m q k side = true then 0 else 520
/-- does case j clash with a decision -/
def mayP (wi : Nat → Int) (fn : Nat → Nat) (F : Nat → Nat → Int) (rn : Nat → Nat) (R : Nat → Nat → Int) (l : Nat → Int) (m : Nat) (q : Nat → Int) (k : Nat) (side : Int) (j : Nat) : Bool :=
  claB side (wi j) (mask l m) (mask q k) (mask (F j) (fn j)) (mask (R j) (rn j))
/-- what May hands back -/
def myV (E : Int) (o : Option Nat) : Value := .tuple #[.int .i64 (if E = 0 then ((o.getD 0 : Nat) : Int) else 0), .bool (decide (E = 0) && o.isNone), .int .i64 E]

set_option maxRecDepth 100000 in
set_option maxHeartbeats 4000000 in
theorem May_17 {SA CA : Option Addr} {sn sc n cc : Nat} {S no hr wi : Nat → Int} {FA RA : Nat → Option Addr} {fn fc rn rc : Nat → Nat} {F R : Nat → Nat → Int} (B : Nat) (A A' : Option Addr) (m c k c' : Nat) (l q : Nat → Int) (side : Int) (w : World) (hs : SmK sn n fn rn) (hm : m ≤ 1000) (hk : k ≤ 1000) (hB : B ≤ w.heap.size) (hr0 : RdK w B SA sn S CA n no hr wi FA fn fc F RA rn rc R) (hf : Rd w B A m (fun j => .int .i64 (l j))) (hq : Rd w B A' k (fun j => .int .i64 (q j))) :
    Calls Try.prog 17 #[(.agg #[.slice SA sn sc, .slice CA n cc]), .slice A m c, .slice A' k c', .int .i64 side] w fun e w' => e = .returned (myV (mayE (askE (chkE S sn n no hr wi fn F rn R) sn l m side) S sn l m q k side) (fstB (mayP wi fn F rn R l m q k side) 0 n)) ∧ Below w.heap.size w w' := by
  obtain ⟨MF, hMF⟩ : ∃ MF : Nat → Nat, MF = fun j => mask (F j) (fn j) := ⟨_, rfl⟩
  obtain ⟨MR, hMR⟩ : ∃ MR : Nat → Nat, MR = fun j => mask (R j) (rn j) := ⟨_, rfl⟩
  have HX : Hid (∀ W, Below w.heap.size w W → Calls Try.prog 33 #[(.agg #[.slice SA sn sc, .slice CA n cc]), .slice A m c, .int .i64 side] W fun e w' => AskR (askE (chkE S sn n no hr wi fn F rn R) sn l m side) (fav S 0 sn) (fav S 1 sn) n (mask l m) (d3 wi MF MR) e w' ∧ Below W.heap.size W w') := Lib.hid fun W h => by
    have h1 := ask_33 (sc := sc) (cc := cc) B A m c l side W hs hm (Nat.le_trans hB h.size) (hr0.below (h.mono hB)) (hf.below (h.mono hB))
    rw [dcc_d3, ← hMF, ← hMR] at h1
    exact h1
  have HP : Hid (askE (chkE S sn n no hr wi fn F rn R) sn l m side = 0 → (n ≤ 64 ∧ (side = 0 ∨ side = 1) ∧ mask l m < 18446744073709551616 ∧ fav S 0 sn < 18446744073709551616 ∧ fav S 1 sn < 18446744073709551616) ∧
      (∀ W, Below w.heap.size w W → Calls Try.prog 39 #[.slice A' k c', .int .i64 sn] W fun e w' => e = .returned (ofV sn q k) ∧ W = w') ∧
      (okS sn q k = true → mask q k < 18446744073709551616 ∧ subB (mask q k) (mask l m &&& (if side = 0 then fav S 0 sn else fav S 1 sn)) = reaB S sn l m q k side ∧ ∀ j, j < n → ∀ W, Calls Try.prog 28 #[.agg #[.int .i64 side, .int .u64 (mask l m), .int .u64 (mask q k)], .agg #[.int .i64 (wi j), .int .u64 (MF j), .int .u64 (MR j)]] W fun e w' => e = .returned (.bool (mayP wi fn F rn R l m q k side j)) ∧ Below W.heap.size W w')) := Lib.hid fun h => by
    obtain ⟨h1, h2, h3⟩ := askE_zero h
    obtain ⟨h4, h5, _, h6⟩ := chk_zero h1
    have h7 : side = 0 ∨ side = 1 := by have := inB_iff.1 h3; omega
    refine ⟨⟨h5, h7, mask_small h4 h2, fav_small h4, fav_small h4⟩, fun W hW => of_39 A' k c' B q sn W h4 (by omega) (hq.below (hW.mono hB)), fun h8 => ⟨mask_small h4 h8, ?_, fun j hj W => ?_⟩⟩
    · have h9 := rea_bits (S := S) (x := side) h4 h2 h8
      rw [reaB, h8, Bool.true_and, ← h9]
      rcases h7 with rfl | rfl <;> rfl
    · obtain ⟨_, _, h9, h10, _⟩ := casB_facts (h6 j hj)
      simp only [hMF, hMR]
      exact clash_28 side (wi j) _ _ _ _ W (mask_small h4 h2) (mask_small h4 h8) (mask_small h4 h9) (mask_small h4 h10)
  have HE1 : Hid (askE (chkE S sn n no hr wi fn F rn R) sn l m side = 0 → okS sn q k = false → mayE (askE (chkE S sn n no hr wi fn F rn R) sn l m side) S sn l m q k side = 520) := Lib.hid fun h h2 => by simp [mayE, h, reaB, h2]
  have HE2 : Hid (askE (chkE S sn n no hr wi fn F rn R) sn l m side = 0 → mayE (askE (chkE S sn n no hr wi fn F rn R) sn l m side) S sn l m q k side = if reaB S sn l m q k side = true then 0 else 520) := Lib.hid fun h => by rw [mayE, if_neg (by simpa using h)]
  have HE3 : Hid (askE (chkE S sn n no hr wi fn F rn R) sn l m side ≠ 0 → mayE (askE (chkE S sn n no hr wi fn F rn R) sn l m side) S sn l m q k side = askE (chkE S sn n no hr wi fn F rn R) sn l m side) := Lib.hid fun h => by rw [mayE, if_pos h]
  clear hs hr0 hf hq hMF hMR
  generalize mayE (askE (chkE S sn n no hr wi fn F rn R) sn l m side) S sn l m q k side = E2 at HE1 HE2 HE3 ⊢
  generalize askE (chkE S sn n no hr wi fn F rn R) sn l m side = E at HX HP HE1 HE2 HE3
  generalize mayP wi fn F rn R l m q k side = p at HP ⊢
  generalize fav S 0 sn = f0 at HX HP
  generalize fav S 1 sn = f1 at HX HP
  generalize mask l m = a at HX HP
  generalize reaB S sn l m q k side = rb at HP HE2
  obtain ⟨o, ho⟩ : ∃ o, o = fstB p 0 n := ⟨_, rfl⟩
  rw [← ho]
  have HO := Lib.hid ho
  clear ho
  go_enter Try.func17, Try.ntmps17
  go_upto_region 1 with fail
  obtain ⟨w0, hw0⟩ : ∃ zz, zz = w.alloc (.cells #[.slice SA sn sc, .slice CA n cc] 25) := ⟨_, rfl⟩
  have HK0 : Hid (Blk w0 w.heap.size 25 #[.slice SA sn sc, .slice CA n cc]) := Lib.hid (hw0 ▸ Blk.new _ _ _)
  have HB0 : Hid (Below w.heap.size w w0) := Lib.hid (hw0 ▸ below_alloc _ _)
  rw [← hw0]
  clear hw0
  have hs0 := HK0.out.lt
  have hz0 := HB0.out.size
  have cb0 : w0.cell? ⟨w.heap.size, 0, none⟩ = some (.slice SA sn sc) := HK0.out.cell 0
  have cb1 : w0.cell? ⟨w.heap.size, 1, none⟩ = some (.slice CA n cc) := HK0.out.cell 1
  go_wp2_with fail
  refine (HX.out _ HB0.out).mono ?_
  rintro e w1 ⟨⟨a', b', u, A1, m1, c1, rfl, hrd⟩, hb⟩
  have HRD := Lib.hid hrd
  have HK1 := Lib.hid (HK0.out.below hb hs0)
  have HB1 := Lib.hid (HB0.out.trans (hb.mono hz0))
  clear hrd hb HK0 HB0 cb0 cb1
  have hs1 := HK1.out.lt
  have hz1 := HB1.out.size
  go_upto_region 2 with fail
  obtain ⟨w2, hw2⟩ : ∃ zz, zz = w1.alloc (.cells #[.int .u64 a', .int .u64 b', .slice A1 m1 c1] 52) := ⟨_, rfl⟩
  have HC2 : Hid (Blk w2 w1.heap.size 52 #[.int .u64 a', .int .u64 b', .slice A1 m1 c1]) := Lib.hid (hw2 ▸ Blk.new _ _ _)
  have hb2 : Below w1.heap.size w1 w2 := hw2 ▸ below_alloc _ _
  have HK2 := Lib.hid (HK1.out.below hb2 hs1)
  have HB2 := Lib.hid (HB1.out.trans (hb2.mono hz1))
  have HRD2 : Hid (E = 0 → a' = f0 ∧ b' = f1 ∧ m1 = n ∧ u = a ∧ Rd w2 w1.heap.size A1 (n * 3) (d3 wi MF MR)) := Lib.hid fun h => by
    obtain ⟨e1, e2, e3, e4, h5⟩ := HRD.out h
    exact ⟨e1, e2, e3, e4, h5.below hb2⟩
  rw [← hw2]
  clear hw2 hb2 HRD HK1 HB1
  have hs2 := HC2.out.lt
  have hz2 := HB2.out.size
  by_cases hE : E = 0
  · obtain ⟨rfl, rfl, rfl, rfl, hrd⟩ := HRD2.out hE
    obtain ⟨⟨h64, hsd, ha, hf0, hf1⟩, hof, hok⟩ := HP.out hE
    have HOF := Lib.hid hof
    have HOK := Lib.hid hok
    have HR9 := Lib.hid hrd
    have HF1 := Lib.hid (HE1.out hE)
    have HF2 := Lib.hid (HE2.out hE)
    subst hE
    clear hrd hof hok HX HP HRD2 HE1 HE2 HE3
    have cb0 : w2.cell? ⟨w.heap.size, 0, none⟩ = some (.slice SA sn sc) := HK2.out.cell 0
    have cc0 : w2.cell? ⟨w1.heap.size, 0, none⟩ = some (.int .u64 a') := HC2.out.cell 0
    have cc1 : w2.cell? ⟨w1.heap.size, 1, none⟩ = some (.int .u64 b') := HC2.out.cell 1
    have cc2 : w2.cell? ⟨w1.heap.size, 2, none⟩ = some (.slice A1 m1 c1) := HC2.out.cell 2
    have HBAD : Hid (∀ o, E2 = 520 → myV E2 o = .tuple #[.int .i64 0, .bool false, .int .i64 520]) := Lib.hid fun o h => by rw [h]; simp [myV]
    go_wp2_with fail
    refine (HOF.out w2 HB2.out).mono ?_
    rintro e w' ⟨rfl, rfl⟩
    cases h1 : okS sn q k
    · have HE := Lib.hid (HF1.out h1)
      rw [ofV_bad h1]
      clear h1
      go_wp2_with fail
      refine bodyPost_ret (results_tmp3' rfl _ _ _) rfl ?_
      exact ⟨ret_val (HBAD.out _ HE.out).symm, HB2.out⟩
    rw [ofV_ok h1]
    obtain ⟨hmq, hsub, hcl⟩ := HOK.out h1
    have HCL := Lib.hid hcl
    have HSUB := Lib.hid hsub
    clear h1 hcl hsub HOK HOF
    generalize mask q k = v at hmq HSUB HCL ⊢
    go_upto_region 5 with fail
    go_cut [46] (fun s46 wc => s46 = .bool (!rb) ∧ wc = w2)
    case first =>
      rcases hsd with rfl | rfl
      · have hand := u64_and_nat u a' ha hf0
        have lA : u &&& a' < 18446744073709551616 := Nat.lt_of_le_of_lt Nat.and_le_left ha
        have HIN : Hid (∀ W, Calls Try.prog 35 #[.int .u64 v, .int .u64 (u &&& a' : Nat)] W fun e w' => e = .returned (.bool rb) ∧ W = w') := Lib.hid fun W => by rw [← HSUB.out, if_pos rfl]; exact in_35 v (u &&& a') W hmq lA
        clear lA
        generalize u &&& a' = ma at hand HIN
        go_wp2_with fail
        refine (HIN.out _).mono ?_
        rintro e w' ⟨rfl, rfl⟩
        go_wp2_with fail
        go_meet
        case rel => exact ⟨rfl, rfl⟩
      · have hand := u64_and_nat u b' ha hf1
        have lA : u &&& b' < 18446744073709551616 := Nat.lt_of_le_of_lt Nat.and_le_left ha
        have HIN : Hid (∀ W, Calls Try.prog 35 #[.int .u64 v, .int .u64 (u &&& b' : Nat)] W fun e w' => e = .returned (.bool rb) ∧ W = w') := Lib.hid fun W => by rw [← HSUB.out, if_neg (by decide)]; exact in_35 v (u &&& b') W hmq lA
        clear lA
        generalize u &&& b' = ma at hand HIN
        go_wp2_with fail
        refine (HIN.out _).mono ?_
        rintro e w' ⟨rfl, rfl⟩
        go_wp2_with fail
        go_meet
        case rel => exact ⟨rfl, rfl⟩
    case rest =>
      obtain ⟨rfl, rfl⟩ := hcut
      cases rb with
      | false =>
        have HE : Hid (E2 = 520) := Lib.hid (by rw [HF2.out]; rfl)
        go_wp2_with fail
        refine bodyPost_ret (results_tmp3' rfl _ _ _) rfl ?_
        exact ⟨ret_val (HBAD.out _ HE.out).symm, HB2.out⟩
      | true =>
        have HE : Hid (E2 = 0) := Lib.hid (by rw [HF2.out]; rfl)
        have HF : Hid (Calls Try.prog 27 #[.slice A1 m1 c1, .int .i64 0, .func (.func 28) #[.agg #[.int .i64 side, .int .u64 u, .int .u64 v]] #[]] wc fun e w' => e = .returned (fstV (fstB p 0 m1)) ∧ Below wc.heap.size wc w') := Lib.hid
          (first_clash A1 m1 c1 w1.heap.size 0 wi MF MR side u v p wc (by omega) (by omega) (by omega) HR9.out (fun j hj W hW => HCL.out j hj W))
        unfold fstV at HF
        rw [← HO.out] at HF
        have HV : Hid (myV E2 o = .tuple #[.int .i64 (o.getD 0 : Nat), .bool o.isNone, .int .i64 0]) := Lib.hid (by rw [HE.out]; simp [myV])
        go_wp2_with fail
        refine HF.out.mono ?_
        rintro e w3 ⟨rfl, hb⟩
        have HB3 := Lib.hid (HB2.out.trans (hb.mono hz2))
        clear hb
        go_wp2_with fail
        refine bodyPost_ret (results_tmp3' rfl _ _ _) rfl ?_
        exact ⟨ret_val HV.out.symm, HB3.out⟩
  · have HV : Hid (∀ o, myV E2 o = .tuple #[.int .i64 0, .bool false, .int .i64 E]) := Lib.hid fun o => by rw [HE3.out hE]; simp [myV, hE]
    have hE' : (E != 0) = true := by simpa using hE
    clear hE
    go_wp2_with fail
    refine bodyPost_ret (results_tmp3' rfl _ _ _) rfl ?_
    exact ⟨ret_val (HV.out _).symm, HB2.out⟩
end Go.Proofs.Ytbojjhdcmogjdaa
