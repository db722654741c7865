/- Contract of the law PlanFirm: it returns true for every course and shape. -/
import Derived.Test.YtnmocdfogdcliaaSane
import Derived.Test.YtnmocdfogdcliaaOpen
import Derived.Test.YtnmocdfogdcliaaRob30
namespace Go.Proofs.Ytnmocdfogdcliaa
open Go.RowKit

theorem fi_zero {cp st fl : Int} {n m : Nat} {lo hi dm ou sp sh : Nat → Int} (h : fiE cp st fl n lo hi dm ou sp m sh = 0) : chkE cp st fl n lo hi dm ou sp = 0 ∧ m = n ∧ ∀ j, j < n → 0 ≤ sh j ∧ sh j ≤ 1048576 := by
  unfold fiE at h
  split at h
  · rename_i h1; exact absurd h h1
  rename_i h1
  split at h
  · cases h
  rename_i h2
  have h2 : m = n := by omega
  subst h2
  split at h
  · cases h
  rename_i h3
  exact ⟨by omega, rfl, shB_at m (by revert h3; cases shB sh m <;> simp)⟩

set_option maxRecDepth 100000 in
set_option maxHeartbeats 8000000 in
theorem firm_10 {PA : Option Addr} {n pc : Nat} {cp st fl : Int} {lo hi dm ou sp : Nat → Int} (B m sc : Nat) (SA : Option Addr) (sh : Nat → Int) (a2 a3 : Int) (w : World) (hn : n ≤ 9223372036854775807) (hm : m ≤ 9223372036854775807) (h2 : 0 ≤ a2 ∧ a2 ≤ 4294967295) (h3 : 0 ≤ a3 ∧ a3 ≤ 4294967295) (hB : B ≤ w.heap.size) (hr : Rd w B PA (n * 5) (psc lo hi dm ou sp)) (hf : Rd w B SA m (fun j => .int .i64 (sh j))) :
    Calls Try.prog 10 #[(.agg #[.int .i64 cp, .int .i64 st, .int .i64 fl, .slice PA n pc]), .slice SA m sc, .int .u32 a2, .int .u32 a3] w fun e w' => e = .returned (.bool true) ∧ Below w.heap.size w w' := by
  obtain ⟨w0, hw0⟩ : ∃ zz, zz = (w.alloc (.cells #[.int .i64 cp, .int .i64 st, .int .i64 fl, .slice PA n pc] 26)).alloc (.cells #[.slice SA m sc] 41) := ⟨_, rfl⟩
  have HK0 : Hid (Blk w0 w.heap.size 26 #[.int .i64 cp, .int .i64 st, .int .i64 fl, .slice PA n pc]) := Lib.hid (hw0 ▸ (Blk.new _ _ _).alloc _)
  have HS0 : Hid (Blk w0 (w.heap.size + 1) 41 #[.slice SA m sc]) := Lib.hid (by have h := Blk.new (w.alloc (.cells #[.int .i64 cp, .int .i64 st, .int .i64 fl, .slice PA n pc] 26)) 41 #[.slice SA m sc]; rw [World.size_alloc] at h; rw [hw0]; exact h)
  have HB0 : Hid (Below w.heap.size w w0) := Lib.hid (hw0 ▸ (below_alloc _ _).alloc (by simp) _)
  have HW := Lib.hid hw0
  have H23 : Hid (∀ W, Below w.heap.size w W → Calls Try.prog 23 #[(.agg #[.int .i64 cp, .int .i64 st, .int .i64 fl, .slice PA n pc]), .slice SA m sc] W fun e w' => e = .returned (fiV cp st fl n lo hi dm ou sp m sh) ∧ Below W.heap.size W w') := Lib.hid fun W h => Firm_23 B m sc SA sh W hn hm (by have := h.size; omega) (hr.below (h.mono hB)) (hf.below (h.mono hB))
  have HKL := fiK_le cp st fl n lo hi ou sp sh
  have HRO : Hid (fiE cp st fl n lo hi dm ou sp m sh = 0 → m = n ∧ ∀ (N : Nat) W, N ≤ 1048576 → Below w.heap.size w W → Blk W w.heap.size 26 #[.int .i64 cp, .int .i64 st, .int .i64 fl, .slice PA n pc] → Blk W (w.heap.size + 1) 41 #[.slice SA m sc] →
      Calls Try.prog 30 #[.int .i64 N, .pointer (some ⟨w.heap.size, 0, none⟩), .pointer (some ⟨w.heap.size + 1, 0, none⟩)] W fun e w' => e = .returned (.bool (decide (N < fiK cp st fl n lo hi ou sp sh))) ∧ Below W.heap.size W w') := Lib.hid fun h => by
    obtain ⟨hc, hmn, hsh⟩ := fi_zero h
    subst hmn
    refine ⟨rfl, fun N W hN hW hk hs => ?_⟩
    refine (robust_30 (PA := PA) (n := m) (pc := pc) (cp := cp) (st := st) (fl := fl) (lo := lo) (hi := hi) (dm := dm) (ou := ou) (sp := sp) B N w.heap.size (w.heap.size + 1) sc SA sh W hN (chk_zero hc).1 hsh (by have := hW.size; omega) hk hs (hr.below (hW.mono hB)) (hf.below (hW.mono hB))).mono fun e w' hh => ⟨?_, hh.2⟩
    rw [hh.1, fiK_spec hsh (show N < 1048577 by omega)]
  have HV : Hid (fiV cp st fl n lo hi dm ou sp m sh = .tuple (fi3 (fiE cp st fl n lo hi dm ou sp m sh) (fiK cp st fl n lo hi ou sp sh))) := Lib.hid rfl
  clear hw0 hr hf hn hm hB
  rw [HV.out] at H23
  clear HV
  generalize fiE cp st fl n lo hi dm ou sp m sh = E at H23 HRO
  generalize fiK cp st fl n lo hi ou sp sh = K at H23 HRO HKL
  go_enter Try.func10, Try.ntmps10
  go_upto_region 1 with fail
  rw [← HW.out]
  clear HW
  go_wp2_with fail
  refine (sane_11 _).mono ?_
  rintro e w1 ⟨rfl, hb⟩
  have HB1 := Lib.hid (HB0.out.trans (hb.mono HB0.out.size))
  have HK1 := Lib.hid (HK0.out.below hb HK0.out.lt)
  have HS1 := Lib.hid (HS0.out.below hb HS0.out.lt)
  clear hb HB0 HK0 HS0
  have c0 : w1.cell? ⟨w.heap.size, 0, none⟩ = some (.int .i64 cp) := HK1.out.cell 0
  have c1 : w1.cell? ⟨w.heap.size, 1, none⟩ = some (.int .i64 st) := HK1.out.cell 1
  have c2 : w1.cell? ⟨w.heap.size, 2, none⟩ = some (.int .i64 fl) := HK1.out.cell 2
  have c3 : w1.cell? ⟨w.heap.size, 3, none⟩ = some (.slice PA n pc) := HK1.out.cell 3
  have s0 : w1.cell? ⟨w.heap.size + 1, 0, none⟩ = some (.slice SA m sc) := HS1.out.cell 0
  by_cases h100 : 100 < m
  · have h100' : (100 : Int) < m := by omega
    go_wp2_with fail
    go_ret
    exact ⟨rfl, HB1.out⟩
  have h100' : ¬ (100 : Int) < m := by omega
  unfold fi3 at H23
  by_cases hE : ¬ E = 0
  · simp only [hE, if_false, decide_false, Bool.false_and] at H23
    have h1d : (E == 0) = false := by simpa using hE
    go_wp2_with fail
    refine (H23.out _ HB1.out).mono ?_
    rintro e w2 ⟨rfl, hb⟩
    have HB2 := Lib.hid (HB1.out.trans (hb.mono HB1.out.size))
    go_wp2_with fail
    go_ret
    exact ⟨rfl, HB2.out⟩
  have hE : E = 0 := by omega
  subst hE
  obtain ⟨rfl, hro⟩ := HRO.out rfl
  have HRO2 : Hid (∀ (N : Nat) W, N ≤ 1048576 → Hid (Below w.heap.size w W ∧ Blk W w.heap.size 26 #[.int .i64 cp, .int .i64 st, .int .i64 fl, .slice PA m pc] ∧ Blk W (w.heap.size + 1) 41 #[.slice SA m sc]) → Calls Try.prog 30 #[.int .i64 N, .pointer (some ⟨w.heap.size, 0, none⟩), .pointer (some ⟨w.heap.size + 1, 0, none⟩)] W fun e w' => e = .returned (.bool (decide (N < K))) ∧ Hid (Below w.heap.size w w' ∧ Blk w' w.heap.size 26 #[.int .i64 cp, .int .i64 st, .int .i64 fl, .slice PA m pc] ∧ Blk w' (w.heap.size + 1) 41 #[.slice SA m sc])) := Lib.hid fun N W hN h => (hro N W hN h.out.1 h.out.2.1 h.out.2.2).mono fun e w' hh => ⟨hh.1, Lib.hid ⟨h.out.1.trans (hh.2.mono h.out.1.size), h.out.2.1.below hh.2 h.out.2.1.lt, h.out.2.2.below hh.2 h.out.2.2.lt⟩⟩
  have eg : ∀ args w, (callFunc 30 args).run Try.prog w = .ok (.enter 30 args) w := enters_of Try.func30 (by kernel_rfl) rfl
  clear hro HRO
  simp only [if_true, decide_true, Bool.true_and] at H23
  cases K with
  | zero =>
    have HX := Lib.hid (H23.out _ HB1.out)
    rw [show max (((0 : Nat) : Int) - 1) 0 = 0 from rfl, show decide (0 < 0) = false from rfl] at HX
    go_wp2_with fail
    refine HX.out.mono ?_
    rintro e w2 ⟨rfl, hb⟩
    have HB2 := Lib.hid (HB1.out.trans (hb.mono HB1.out.size))
    have HK2 := Lib.hid (HK1.out.below hb HK1.out.lt)
    have HS2 := Lib.hid (HS1.out.below hb HS1.out.lt)
    clear hb HX c0 c1 c2 c3 s0 HB1 HK1 HS1
    have c3 : w2.cell? ⟨w.heap.size, 2 + 1, none⟩ = some (.slice PA m pc) := HK2.out.cell 3
    have c3' : w2.cell? ⟨w.heap.size, 3, none⟩ = some (.slice PA m pc) := HK2.out.cell 3
    have s0 : w2.cell? ⟨w.heap.size + 1, 0, none⟩ = some (.slice SA m sc) := HS2.out.cell 0
    have H2 : Hid (Below w.heap.size w w2 ∧ Blk w2 w.heap.size 26 #[.int .i64 cp, .int .i64 st, .int .i64 fl, .slice PA m pc] ∧ Blk w2 (w.heap.size + 1) 41 #[.slice SA m sc]) := Lib.hid ⟨HB2.out, HK2.out, HS2.out⟩
    have HX0 := Lib.hid (HRO2.out 0 w2 (by omega) H2)
    rw [show ((0 : Nat) : Int) = 0 from rfl, show decide (0 < 0) = false from rfl] at HX0
    go_wp2_with (go_at_fn 30; refine HX0.out.mono ?_; rintro e w3 ⟨rfl, H3⟩)
    go_ret
    exact ⟨rfl, H3.out.1⟩
  | succ P =>
    have HX := Lib.hid (H23.out _ HB1.out)
    obtain ⟨p, hp⟩ : ∃ p : Int, p = (P : Int) := ⟨_, rfl⟩
    rw [show max (((P + 1 : Nat) : Int) - 1) 0 = p by omega, show decide (0 < P + 1) = true by simp] at HX
    have HP := Lib.hid hp
    have hpb : 0 ≤ p ∧ p ≤ 1048576 := by omega
    clear hp
    go_wp2_with fail
    refine HX.out.mono ?_
    rintro e w2 ⟨rfl, hb⟩
    have HB2 := Lib.hid (HB1.out.trans (hb.mono HB1.out.size))
    have HK2 := Lib.hid (HK1.out.below hb HK1.out.lt)
    have HS2 := Lib.hid (HS1.out.below hb HS1.out.lt)
    clear hb HX c0 c1 c2 c3 s0 HB1 HK1 HS1
    have c3 : w2.cell? ⟨w.heap.size, 2 + 1, none⟩ = some (.slice PA m pc) := HK2.out.cell 3
    have c3' : w2.cell? ⟨w.heap.size, 3, none⟩ = some (.slice PA m pc) := HK2.out.cell 3
    have s0 : w2.cell? ⟨w.heap.size + 1, 0, none⟩ = some (.slice SA m sc) := HS2.out.cell 0
    have hp := HP.out
    have hp0 : ¬ p < 0 := by omega
    have hp1 : ¬ 1048576 < p := by omega
    obtain ⟨Q, hQ⟩ : ∃ Q : Nat, Q = P + 1 := ⟨_, rfl⟩
    obtain ⟨q, hq⟩ : ∃ q : Int, q = (Q : Int) := ⟨_, rfl⟩
    have hwq : IntKind.i64.wrap (p + 1) = q := by rw [hq, hQ, hp]; exact IntWalk.i64_in _ ⟨by omega, by omega⟩
    have hwa2 : IntKind.i64.wrap a2 = a2 := IntWalk.i64_in _ ⟨by omega, by omega⟩
    have hwa3 : IntKind.i64.wrap a3 = a3 := IntWalk.i64_in _ ⟨by omega, by omega⟩
    obtain ⟨z, hz⟩ : ∃ z : Int, z = a2 % q := ⟨_, rfl⟩
    have hz0 := Int.emod_nonneg a2 (show q ≠ 0 by omega)
    have hz1 := Int.emod_lt_of_pos a2 (show (0 : Int) < q by omega)
    rw [← hz] at hz0 hz1
    obtain ⟨S, hS⟩ : ∃ S : Nat, z = (S : Int) := ⟨z.toNat, by omega⟩
    have hSQ : S < Q := by omega
    have hts : Int.tmod a2 q = z := by rw [Int.tmod_eq_emod_of_nonneg h2.1]; exact hz.symm
    have hwz : IntKind.i64.wrap z = z := IntWalk.i64_in _ ⟨by omega, by omega⟩
    have hq0 : (q == 0) = false := by simp; omega
    have hqne : q ≠ 0 := by omega
    have HP1 : Hid (∀ W, Hid (Below w.heap.size w W ∧ Blk W w.heap.size 26 #[.int .i64 cp, .int .i64 st, .int .i64 fl, .slice PA m pc] ∧ Blk W (w.heap.size + 1) 41 #[.slice SA m sc]) → Calls Try.prog 30 #[.int .i64 p, .pointer (some ⟨w.heap.size, 0, none⟩), .pointer (some ⟨w.heap.size + 1, 0, none⟩)] W fun e w' => e = .returned (.bool true) ∧ Hid (Below w.heap.size w w' ∧ Blk w' w.heap.size 26 #[.int .i64 cp, .int .i64 st, .int .i64 fl, .slice PA m pc] ∧ Blk w' (w.heap.size + 1) 41 #[.slice SA m sc])) := Lib.hid fun W h => by
      have := HRO2.out P W (by omega) h
      rwa [show decide (P < P + 1) = true by simp, ← hp] at this
    have HPS : Hid (∀ W, Hid (Below w.heap.size w W ∧ Blk W w.heap.size 26 #[.int .i64 cp, .int .i64 st, .int .i64 fl, .slice PA m pc] ∧ Blk W (w.heap.size + 1) 41 #[.slice SA m sc]) → Calls Try.prog 30 #[.int .i64 z, .pointer (some ⟨w.heap.size, 0, none⟩), .pointer (some ⟨w.heap.size + 1, 0, none⟩)] W fun e w' => e = .returned (.bool true) ∧ Hid (Below w.heap.size w w' ∧ Blk w' w.heap.size 26 #[.int .i64 cp, .int .i64 st, .int .i64 fl, .slice PA m pc] ∧ Blk w' (w.heap.size + 1) 41 #[.slice SA m sc])) := Lib.hid fun W h => by
      have := HRO2.out S W (by omega) h
      rwa [show decide (S < P + 1) = true by simp; omega, ← hS] at this
    have HPQ : Hid (p < 1048576 → ∀ (N : Nat) W, Q ≤ N → N ≤ 1048576 → Hid (Below w.heap.size w W ∧ Blk W w.heap.size 26 #[.int .i64 cp, .int .i64 st, .int .i64 fl, .slice PA m pc] ∧ Blk W (w.heap.size + 1) 41 #[.slice SA m sc]) → Calls Try.prog 30 #[.int .i64 N, .pointer (some ⟨w.heap.size, 0, none⟩), .pointer (some ⟨w.heap.size + 1, 0, none⟩)] W fun e w' => e = .returned (.bool false) ∧ Hid (Below w.heap.size w w' ∧ Blk w' w.heap.size 26 #[.int .i64 cp, .int .i64 st, .int .i64 fl, .slice PA m pc] ∧ Blk w' (w.heap.size + 1) 41 #[.slice SA m sc])) := Lib.hid fun _ N W hq hN h => by
      have := HRO2.out N W hN h
      rwa [show decide (N < P + 1) = false by simp; omega] at this
    have H2 : Hid (Below w.heap.size w w2 ∧ Blk w2 w.heap.size 26 #[.int .i64 cp, .int .i64 st, .int .i64 fl, .slice PA m pc] ∧ Blk w2 (w.heap.size + 1) 41 #[.slice SA m sc]) := Lib.hid ⟨HB2.out, HK2.out, HS2.out⟩
    clear HRO2 H23 HKL
    by_cases h9 : p < 1048576
    · have HPQ2 := Lib.hid (HPQ.out h9)
      have hd1 : IntKind.i64.wrap (1048576 - p) = 1048576 - p := IntWalk.i64_in _ ⟨by omega, by omega⟩
      obtain ⟨d, hd⟩ : ∃ d : Int, d = 1048576 - p := ⟨_, rfl⟩
      rw [← hd] at hd1
      obtain ⟨r3, hr3⟩ : ∃ r3, r3 = a3 % d := ⟨_, rfl⟩
      have hr0 := Int.emod_nonneg a3 (show d ≠ 0 by omega)
      have hr1 := Int.emod_lt_of_pos a3 (show (0 : Int) < d by omega)
      rw [← hr3] at hr0 hr1
      have htr : Int.tmod a3 d = r3 := by rw [Int.tmod_eq_emod_of_nonneg h3.1]; exact hr3.symm
      have hwr : IntKind.i64.wrap r3 = r3 := IntWalk.i64_in _ ⟨by omega, by omega⟩
      have hrd0 : (d == 0) = false := by simp; omega
      have hrdne : d ≠ 0 := by omega
      have hwd : IntKind.i64.wrap (1048576 - p) = d := by rw [← hd]; exact hd1
      obtain ⟨M, hM⟩ : ∃ M : Nat, (M : Int) = q + r3 := ⟨(q + r3).toNat, by omega⟩
      obtain ⟨mm, hmm⟩ : ∃ mm : Int, mm = (M : Int) := ⟨_, rfl⟩
      have hwM : IntKind.i64.wrap (q + r3) = mm := by rw [hmm, hM]; exact IntWalk.i64_in _ ⟨by omega, by omega⟩
      have hM1 : Q ≤ M ∧ M ≤ 1048576 := by omega
      have hQ1 : Q ≤ 1048576 := by omega
      have HQX : Hid (∀ W, Hid (Below w.heap.size w W ∧ Blk W w.heap.size 26 #[.int .i64 cp, .int .i64 st, .int .i64 fl, .slice PA m pc] ∧ Blk W (w.heap.size + 1) 41 #[.slice SA m sc]) → Calls Try.prog 30 #[.int .i64 q, .pointer (some ⟨w.heap.size, 0, none⟩), .pointer (some ⟨w.heap.size + 1, 0, none⟩)] W fun e w' => e = .returned (.bool false) ∧ Hid (Below w.heap.size w w' ∧ Blk w' w.heap.size 26 #[.int .i64 cp, .int .i64 st, .int .i64 fl, .slice PA m pc] ∧ Blk w' (w.heap.size + 1) 41 #[.slice SA m sc])) := Lib.hid fun W h => by
        have := HPQ2.out Q W (Nat.le_refl _) hQ1 h
        rwa [← hq] at this
      have HMX : Hid (∀ W, Hid (Below w.heap.size w W ∧ Blk W w.heap.size 26 #[.int .i64 cp, .int .i64 st, .int .i64 fl, .slice PA m pc] ∧ Blk W (w.heap.size + 1) 41 #[.slice SA m sc]) → Calls Try.prog 30 #[.int .i64 mm, .pointer (some ⟨w.heap.size, 0, none⟩), .pointer (some ⟨w.heap.size + 1, 0, none⟩)] W fun e w' => e = .returned (.bool false) ∧ Hid (Below w.heap.size w w' ∧ Blk w' w.heap.size 26 #[.int .i64 cp, .int .i64 st, .int .i64 fl, .slice PA m pc] ∧ Blk w' (w.heap.size + 1) 41 #[.slice SA m sc])) := Lib.hid fun W h => by
        have := HPQ2.out M W hM1.1 hM1.2 h
        rwa [← hmm] at this
      have hqb : 1 ≤ q ∧ q ≤ 1048577 := by omega
      have hzb : 0 ≤ z ∧ z ≤ 1048577 := by omega
      have hdb : 1 ≤ d ∧ d ≤ 1048576 := by omega
      have hrb : 0 ≤ r3 ∧ r3 ≤ 1048576 := by omega
      clear hM hr3 hr0 hr1 hQ hq hp hS hz hz0 hz1 hmm hM1 hQ1 hSQ hd hd1 HPQ HPQ2
      go_wp2_with fail
      refine (HQX.out w2 H2).mono ?_
      rintro e w3 ⟨rfl, H3⟩
      go_wp2_with fail
      refine (HMX.out w3 H3).mono ?_
      rintro e w4 ⟨rfl, H4⟩
      go_wp2_with fail
      refine (HP1.out w4 H4).mono ?_
      rintro e w5 ⟨rfl, H5⟩
      go_wp2_with fail
      refine (HPS.out w5 H5).mono ?_
      rintro e w6 ⟨rfl, H6⟩
      go_wp2_with fail
      go_ret
      exact ⟨rfl, H6.out.1⟩
    · have hqb : 1 ≤ q ∧ q ≤ 1048577 := by omega
      have hzb : 0 ≤ z ∧ z ≤ 1048577 := by omega
      clear hQ hq hp hS hz hz0 hz1 hSQ HPQ
      have h9d : decide (p < 1048576) = false := by simpa using h9
      go_wp2_with fail
      refine (HP1.out w2 H2).mono ?_
      rintro e w5 ⟨rfl, H5⟩
      go_wp2_with fail
      refine (HPS.out w5 H5).mono ?_
      rintro e w6 ⟨rfl, H6⟩
      go_wp2_with fail
      go_ret
      exact ⟨rfl, H6.out.1⟩
end Go.Proofs.Ytnmocdfogdcliaa
