/- Contract of the reference's Robust: the walk. -/
import Derived.Test.YtnmocdfogdcliaaRobust
namespace Go.Proofs.Ytnmocdfogdcliaa
open Go.RowKit

set_option maxRecDepth 100000 in
set_option maxHeartbeats 8000000 in
theorem Robust_13 {PA : Option Addr} {n pc : Nat} {cp st fl : Int} {lo hi dm ou sp : Nat → Int} (B : Nat) (w : World) (hn : n ≤ 9223372036854775807) (hB : B ≤ w.heap.size) (hr : Rd w B PA (n * 5) (psc lo hi dm ou sp)) :
    Calls Try.prog 13 #[(.agg #[.int .i64 cp, .int .i64 st, .int .i64 fl, .slice PA n pc])] w fun e w' => (∃ A k c, e = .returned (.tuple #[.slice A k c, .int .i64 (chkE cp st fl n lo hi dm ou sp)]) ∧ ((chkE cp st fl n lo hi dm ou sp) = 0 → k = n + 1 ∧ c = n + 1 ∧ Rd w' w'.heap.size A ((n + 1) * 2) (rsc (rb cp fl n lo hi dm ou sp))) ∧ (¬ (chkE cp st fl n lo hi dm ou sp) = 0 → A = none ∧ k = 0 ∧ c = 0)) ∧ Below w.heap.size w w' := by
  obtain ⟨w0, hw0⟩ : ∃ zz, zz = w.alloc (.cells #[.int .i64 cp, .int .i64 st, .int .i64 fl, .slice PA n pc] 26) := ⟨_, rfl⟩
  have HK0 : Hid (Blk w0 w.heap.size 26 #[.int .i64 cp, .int .i64 st, .int .i64 fl, .slice PA n pc]) := Lib.hid (hw0 ▸ Blk.new _ _ _)
  have HB0 : Hid (Below w.heap.size w w0) := Lib.hid (hw0 ▸ below_alloc _ _)
  have HW := Lib.hid hw0
  have HRD := Lib.hid hr
  have HCK := Lib.hid (ref_Check_15 (PA := PA) (pc := pc) (cp := cp) (st := st) (fl := fl) B w0 hn (by have := HB0.out.size; omega) (hr.below (HB0.out.mono hB)))
  clear hw0 hr
  have c0 : w0.cell? ⟨w.heap.size, 0, none⟩ = some (.int .i64 cp) := HK0.out.cell 0
  have c1 : w0.cell? ⟨w.heap.size, 1, none⟩ = some (.int .i64 st) := HK0.out.cell 1
  have c2 : w0.cell? ⟨w.heap.size, 2, none⟩ = some (.int .i64 fl) := HK0.out.cell 2
  have c3 : w0.cell? ⟨w.heap.size, 3, none⟩ = some (.slice PA n pc) := HK0.out.cell 3
  have HG : Hid ((chkE cp st fl n lo hi dm ou sp) = 0 → Good cp fl n lo hi dm ou sp) := Lib.hid good_of
  generalize (chkE cp st fl n lo hi dm ou sp) = CE at HCK HG ⊢
  go_enter Try.func13, Try.ntmps13
  go_upto_region 1 with fail
  rw [← HW.out]
  clear HW
  go_wp2_with fail
  refine HCK.out.mono ?_
  rintro e w1 ⟨rfl, hb⟩
  have HB1 := Lib.hid (HB0.out.trans (hb.mono HB0.out.size))
  have HK1 := Lib.hid (HK0.out.below hb HK0.out.lt)
  clear hb HK0 HB0 HCK c0 c1 c2 c3
  have c0 : w1.cell? ⟨w.heap.size, 0, none⟩ = some (.int .i64 cp) := HK1.out.cell 0
  have c2 : w1.cell? ⟨w.heap.size, 2, none⟩ = some (.int .i64 fl) := HK1.out.cell 2
  have c3 : w1.cell? ⟨w.heap.size, 2 + 1, none⟩ = some (.slice PA n pc) := HK1.out.cell 3
  by_cases h1 : ¬ CE = 0
  · have h1d : (CE == 0) = false := by simpa using h1
    go_wp2_with fail
    refine bodyPost_ret (results_tmp2 rfl _ _ _) rfl ?_
    exact ⟨⟨none, 0, 0, rfl, fun h => absurd h h1, fun _ => ⟨rfl, rfl, rfl⟩⟩, HB1.out⟩
  have h1 : CE = 0 := by omega
  subst h1
  have HGG := Lib.hid (HG.out rfl)
  have h64 : n ≤ 64 := HGG.out.1
  have hmk : ∀ w, (Instr.makeSlice 28 (.int .i64 ((n : Int) + 1)) (.int .i64 ((n : Int) + 1))).run Try.prog w = .ok (.slice (some ⟨w.heap.size, 0, none⟩) (n + 1) (n + 1)) (w.alloc (.cells (madeCells #[.int .i64 0, .int .i64 0] ((n + 1) * 2)) 48)) := fun w => by
    have h := make_ranges (n + 1) (by omega) w
    rwa [show ((n + 1 : Nat) : Int) = (n : Int) + 1 by omega] at h
  have hw1 : IntKind.i64.wrap ((n : Int) + 1) = n + 1 := IntWalk.i64_in _ ⟨by omega, by omega⟩
  clear HG
  go_upto_region 5 with fail
  obtain ⟨cs0, hcs0⟩ : ∃ zz, zz = madeCells #[.int .i64 0, .int .i64 0] ((n + 1) * 2) := ⟨_, rfl⟩
  have hsz0 : cs0.size = (n + 1) * 2 := by rw [hcs0]; exact size_madeCells _ _
  rw [← hcs0]
  clear hcs0 hmk
  obtain ⟨w2, hw2⟩ : ∃ zz, zz = w1.alloc (.cells cs0 48) := ⟨_, rfl⟩
  have HQ2 : Hid (Blk w2 w1.heap.size 48 cs0) := Lib.hid (hw2 ▸ Blk.new _ _ _)
  have HK2 : Hid (Blk w2 w.heap.size 26 #[.int .i64 cp, .int .i64 st, .int .i64 fl, .slice PA n pc]) := Lib.hid (hw2 ▸ HK1.out.alloc _)
  have HB2 : Hid (Below w.heap.size w w2) := Lib.hid (hw2 ▸ HB1.out.alloc HB1.out.size _)
  rw [← hw2]
  have hgs : w.heap.size < w1.heap.size := HK1.out.lt
  clear hw2 HB1 HK1 c0 c2 c3
  generalize w1.heap.size = g at *
  clear w1
  obtain ⟨x0, hx0⟩ : ∃ x, cs0[n * 2]? = some x := ⟨_, Array.getElem?_eq_getElem (by omega)⟩
  obtain ⟨x1, hx1⟩ : ∃ x, cs0[n * 2 + 1]? = some x := ⟨_, Array.getElem?_eq_getElem (by omega)⟩
  have c0 : w2.cell? ⟨w.heap.size, 0, none⟩ = some (.int .i64 cp) := HK2.out.cell 0
  have c2 : w2.cell? ⟨w.heap.size, 2, none⟩ = some (.int .i64 fl) := HK2.out.cell 2
  have c3 : w2.cell? ⟨w.heap.size, 2 + 1, none⟩ = some (.slice PA n pc) := HK2.out.cell 3
  have q0 : w2.cell? ⟨g, n * 2, none⟩ = some x0 := (HQ2.out.cell _).trans hx0
  have q1 : w2.cell? ⟨g, n * 2 + 1, none⟩ = some x1 := (HQ2.out.cell _).trans hx1
  have q2 := HQ2.out.frozen (n * 2)
  have q3 := HQ2.out.frozen (n * 2 + 1)
  go_upto_region 6 with fail
  have HF : Hid (RowR ((cs0.setIfInBounds (n * 2) (.int .i64 fl)).setIfInBounds (n * 2 + 1) (.int .i64 cp)) n n (rb cp fl n lo hi dm ou sp)) := Lib.hid ⟨by simp [hsz0], fun j hj hj2 => by
    obtain rfl : j = n := by omega
    rw [rb_end]
    exact ⟨by rw [set_off _ (by omega)]; exact set_at _ (by omega), set_at _ (by simp; omega)⟩⟩
  have HQ3 := Lib.hid ((HQ2.out.set_ (n * 2) (.int .i64 fl)).set_ (n * 2 + 1) (.int .i64 cp))
  have HK3 := Lib.hid ((HK2.out.far (p := ⟨g, n * 2, none⟩) (by simp; omega) (.int .i64 fl)).far (p := ⟨g, n * 2 + 1, none⟩) (by simp; omega) (.int .i64 cp))
  have HB3 := Lib.hid ((HB2.out.setCell (p := ⟨g, n * 2, none⟩) (by simp; omega) (.int .i64 fl)).setCell (p := ⟨g, n * 2 + 1, none⟩) (by simp; omega) (.int .i64 cp))
  generalize (cs0.setIfInBounds (n * 2) (.int .i64 fl)).setIfInBounds (n * 2 + 1) (.int .i64 cp) = cs1 at HF HQ3
  generalize (w2.setCell ⟨g, n * 2, none⟩ (.int .i64 fl)).setCell ⟨g, n * 2 + 1, none⟩ (.int .i64 cp) = w3 at HQ3 HK3 HB3 ⊢
  clear HQ2 HK2 HB2 c0 c2 c3 q0 q1 q2 q3 hx0 hx1 hsz0
  clear w2
  have c3 : w3.cell? ⟨w.heap.size, 2 + 1, none⟩ = some (.slice PA n pc) := HK3.out.cell 3
  have hw2 : IntKind.i64.wrap ((n : Int) - 1) = n - 1 := IntWalk.i64_in _ ⟨by omega, by omega⟩
  go_upto_region 7 with fail
  clear c3
  go_loopw [6] (fun i wr => ∃ (k : Nat) (v : Int) (cs : Array Value), k ≤ n ∧ i = .int .i64 v ∧ v + 1 = k ∧ Hid (Blk wr g 48 cs) ∧ Hid (RowR cs n k (rb cp fl n lo hi dm ou sp)) ∧ Hid (Blk wr w.heap.size 26 #[.int .i64 cp, .int .i64 st, .int .i64 fl, .slice PA n pc]) ∧ Below w.heap.size w wr) (fun i _ => (intOf i + 1).toNat)
  case atStart => exact ⟨n, (n : Int) - 1, cs1, Nat.le_refl _, rfl, by omega, HQ3, HF, HK3, HB3.out⟩
  case round =>
    obtain ⟨k, v, cs, hk, rfl, hv, HQ4, HR4, HK4, hb⟩ := hrel
    have HB4 := Lib.hid hb
    clear hb HQ3 HF HK3 HB3
    cases k with
    | zero =>
      have hv0 : v = -1 := by omega
      subst hv0
      go_wp2_with fail
      refine bodyPost_ret (results_tmp2 rfl _ _ _) rfl ?_
      exact ⟨⟨_, _, _, rfl, rfl, rfl, RowR.rd HQ4.out HQ4.out.lt HR4.out⟩, HB4.out⟩
    | succ j =>
      obtain rfl : v = j := by omega
      clear hv
      obtain ⟨x0, hx0⟩ : ∃ x, cs[j * 2]? = some x := ⟨_, Array.getElem?_eq_getElem (by have := HR4.out.1; omega)⟩
      obtain ⟨x1, hx1⟩ : ∃ x, cs[j * 2 + 1]? = some x := ⟨_, Array.getElem?_eq_getElem (by have := HR4.out.1; omega)⟩
      obtain ⟨y0, y1⟩ := HR4.out.2 (j + 1) (by omega) (by omega)
      have HN : Hid (bef cp lo hi dm ou sp j (rb cp fl n lo hi dm ou sp (j + 1)) = rb cp fl n lo hi dm ou sp j) := Lib.hid (rb_step (by omega)).symm
      have c0 : wr.cell? ⟨w.heap.size, 0, none⟩ = some (.int .i64 cp) := HK4.out.cell 0
      have c1 : wr.cell? ⟨w.heap.size, 1, none⟩ = some (.int .i64 st) := HK4.out.cell 1
      have c2 : wr.cell? ⟨w.heap.size, 2, none⟩ = some (.int .i64 fl) := HK4.out.cell 2
      have c3 : wr.cell? ⟨w.heap.size, 3, none⟩ = some (.slice PA n pc) := HK4.out.cell 3
      have q0 : wr.cell? ⟨g, j * 2, none⟩ = some x0 := (HQ4.out.cell _).trans hx0
      have q1 : wr.cell? ⟨g, j * 2 + 1, none⟩ = some x1 := (HQ4.out.cell _).trans hx1
      have q2 := HQ4.out.frozen (j * 2)
      have q3 := HQ4.out.frozen (j * 2 + 1)
      have r0 : wr.cell? ⟨g, (j + 1) * 2, none⟩ = some _ := (HQ4.out.cell _).trans y0
      have r1 : wr.cell? ⟨g, (j + 1) * 2 + 1, none⟩ = some _ := (HQ4.out.cell _).trans y1
      have HS := Lib.hid (HR4.out.set_ (by omega))
      have hok := rb_ok HGG.out (j + 1) hk
      generalize rb cp fl n lo hi dm ou sp (j + 1) = R at HN r0 r1 hok
      obtain ⟨z0, z1⟩ := R
      simp only at r0 r1
      have HC34 : Hid (Calls Try.prog 34 #[(.agg #[.int .i64 cp, .int .i64 st, .int .i64 fl, .slice PA n pc]), .int .i64 j, .agg #[.int .i64 z0, .int .i64 z1]] wr.drew fun e w' => e = .returned (.agg #[.int .i64 (rb cp fl n lo hi dm ou sp j).1, .int .i64 (rb cp fl n lo hi dm ou sp j).2]) ∧ Hid (Below wr.heap.size wr w') ∧
          w'.cell? ⟨g, j * 2, none⟩ = some x0 ∧ w'.cell? ⟨g, j * 2 + 1, none⟩ = some x1 ∧ w'.frozen? ⟨g, j * 2, none⟩ = false ∧ w'.frozen? ⟨g, j * 2 + 1, none⟩ = false) :=
        Lib.hid ((before_34 (PA := PA) (pc := pc) (st := st) B j z0 z1 wr.drew (by omega) HGG.out hok (by have := HB4.out.size; simp; omega) ((HRD.out.below (HB4.out.mono hB)).drew)).mono fun e w' h => by
          rw [HN.out] at h
          have hb : Below wr.heap.size wr w' := (Below.refl wr.heap.size wr).drew.trans h.2
          have y := HQ4.out.below hb HQ4.out.lt
          exact ⟨h.1, Lib.hid hb, (y.cell _).trans hx0, (y.cell _).trans hx1, y.frozen _, y.frozen _⟩)
      have hwj : IntKind.i64.wrap ((j : Int) + 1) = j + 1 := IntWalk.i64_in _ ⟨by omega, by omega⟩
      have hwk : IntKind.i64.wrap ((j : Int) - 1) = j - 1 := IntWalk.i64_in _ ⟨by omega, by omega⟩
      generalize rb cp fl n lo hi dm ou sp j = R2 at HC34 HS
      obtain ⟨s0, s1⟩ := R2
      simp only at HC34 HS
      have hj1 : (j : Int) < (n : Int) + 1 := by omega
      have hj2 : (j : Int) < n := by omega
      have hj3 : j < n := by omega
      have hj4 : j < n + 1 := by omega
      have hj5 : (j : Int) + 1 < (n : Int) + 1 := by omega
      have hj6 : j ≤ n := by omega
      have hj7 : (j : Int) ≤ n := by omega
      obtain ⟨m, hm⟩ : ∃ m : Nat, m = j + 1 := ⟨_, rfl⟩
      rw [← hm] at r0 r1
      have hwm : IntKind.i64.wrap ((j : Int) + 1) = (m : Int) := by rw [hwj, hm]; rfl
      clear hwj
      have hm1 : (m : Int) < (n : Int) + 1 := by omega
      have hm2 : m < n + 1 := by omega
      have hm3 : m ≤ n := by omega
      have hm4 : (m : Int) ≤ n := by omega
      clear hm
      go_upto_region 9 with fail
      go_region_with (first | (go_at_call 34; refine HC34.out.mono ?_; rintro e w' ⟨rfl, hbl, k0, k1, k2, k3⟩))
      all_goals
        go_wp2_with fail
        have hb5 := hbl.out
        have HQ5 := Lib.hid (((HQ4.out.below hb5 HQ4.out.lt).set_ (j * 2) (.int .i64 s0)).set_ (j * 2 + 1) (.int .i64 s1))
        have HK5 := Lib.hid (((HK4.out.below hb5 HK4.out.lt).far (p := ⟨g, j * 2, none⟩) (by simp; omega) (.int .i64 s0)).far (p := ⟨g, j * 2 + 1, none⟩) (by simp; omega) (.int .i64 s1))
        have HB5 := Lib.hid (((HB4.out.trans (hb5.mono HB4.out.size)).setCell (p := ⟨g, j * 2, none⟩) (by simp; omega) (.int .i64 s0)).setCell (p := ⟨g, j * 2 + 1, none⟩) (by simp; omega) (.int .i64 s1))
        go_roundw
        case rel => exact ⟨j, (j : Int) - 1, _, by omega, by go_num, by omega, HQ5, HS, HK5, HB5.out⟩
        case measure => simp [intOf]
end Go.Proofs.Ytnmocdfogdcliaa
