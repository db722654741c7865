/- Stakes: words; contracts of in, Check, check, least and of the search for a body. -/
import Derived.Test.YtonkjnkokikpgaaGreatKeeps
import Derived.Sort.Walk0
import Derived.Shelf.Abstract
namespace Go.Proofs.YtonkjnkokikpgaaGreat
open Go.RowKit

/-- stakes -/
structure StkF where
  bd : Nat → Int
  pd : Nat → Int
  dp : Nat → Int
  rt : Nat → Int
def StkF.cells (s : StkF) (j : Nat) : Value :=
  if j % 4 = 0 then .int .i64 (s.bd (j / 4)) else if j % 4 = 1 then .int .i64 (s.pd (j / 4)) else if j % 4 = 2 then .int .i64 (s.dp (j / 4)) else .int .i64 (s.rt (j / 4))
theorem stk_at {w : World} {B : Nat} {A : Option Addr} {n : Nat} {s : StkF} (h : Rd w B A (n * 4) s.cells) {j : Nat} (hj : j < n) :
    ∃ b off, A = some ⟨b, off, none⟩ ∧ b < B ∧ w.cell? ⟨b, off + j * 4, none⟩ = some (.int .i64 (s.bd j)) ∧ w.cell? ⟨b, off + j * 4 + 1, none⟩ = some (.int .i64 (s.pd j)) ∧ w.cell? ⟨b, off + j * 4 + 2, none⟩ = some (.int .i64 (s.dp j)) ∧ w.cell? ⟨b, off + j * 4 + 3, none⟩ = some (.int .i64 (s.rt j)) := by
  obtain ⟨b, off, e, hb, hc⟩ := h (by omega)
  refine ⟨b, off, e, hb, ?_, ?_, ?_, ?_⟩
  · rw [hc (j * 4) (by omega)]; unfold StkF.cells; rw [if_pos (by omega), show j * 4 / 4 = j by omega]
  · rw [Nat.add_assoc, hc (j * 4 + 1) (by omega)]; unfold StkF.cells; rw [if_neg (by omega), if_pos (by omega), show (j * 4 + 1) / 4 = j by omega]
  · rw [Nat.add_assoc, hc (j * 4 + 2) (by omega)]; unfold StkF.cells; rw [if_neg (by omega), if_neg (by omega), if_pos (by omega), show (j * 4 + 2) / 4 = j by omega]
  · rw [Nat.add_assoc, hc (j * 4 + 3) (by omega)]; unfold StkF.cells; rw [if_neg (by omega), if_neg (by omega), if_neg (by omega), show (j * 4 + 3) / 4 = j by omega]
/-- right stakes -/
def StGood (n : Nat) (s : StkF) : Prop := n ≤ 256 ∧ (∀ i, i < n → (0 ≤ s.bd i ∧ s.bd i ≤ 63) ∧ (0 ≤ s.pd i ∧ s.pd i ≤ 15) ∧ (0 ≤ s.dp i ∧ s.dp i ≤ 1073741824) ∧ (0 ≤ s.rt i ∧ s.rt i ≤ 1048576)) ∧ ∀ i, i + 1 < n → 16 * s.bd i + s.pd i < 16 * s.bd (i + 1) + s.pd (i + 1)

set_option maxRecDepth 100000 in
theorem in_38 (a h : Int) (w : World) : Calls Tryz.prog 38 #[.int .i64 a, .int .i64 h] w fun e w' => e = .returned (.bool (ri3 0 a h)) ∧ w = w' := by
  go_enter Tryz.func38, Tryz.ntmps38
  by_cases h1 : 0 ≤ a
  · have h1d : decide (0 ≤ a) = true := by simpa using h1
    go_wp2_with fail
    go_ret
    exact ⟨ret_bool (by unfold ri3; rw [h1d]; simp), rfl⟩
  · have h1d : decide (0 ≤ a) = false := by simpa using h1
    go_wp2_with fail
    go_ret
    exact ⟨ret_bool (by unfold ri3; rw [h1d]; simp), rfl⟩
theorem in_yes (a h : Int) (w : World) (h1 : 0 ≤ a) (h2 : a ≤ h) : Calls Tryz.prog 38 #[.int .i64 a, .int .i64 h] w fun e w' => e = .returned (.bool true) ∧ w = w' := by
  have := in_38 a h w
  rwa [ri3_iff.2 ⟨h1, h2⟩] at this

set_option maxRecDepth 100000 in
set_option maxHeartbeats 2000000 in
theorem Check_31 (A : Option Addr) (n c B : Nat) (s : StkF) (w : World) (hB : B ≤ w.heap.size) (hr : Rd w B A (n * 4) s.cells) (hg : StGood n s) :
    Calls Tryz.prog 31 #[.slice A n c] w fun e w' => e = .returned (.int .i64 0) ∧ Below w.heap.size w w' := by
  have HR := Lib.hid hr
  have HG := Lib.hid hg
  have h1 := hg.1
  have h256 : ¬ ((256 : Int) < (n : Int)) := by omega
  clear hr hg h1
  go_enter Tryz.func31, Tryz.ntmps31
  go_wp2_with fail
  go_loopw [3, 11] (fun l i wr => ∃ (k : Nat) (L : Int), k ≤ n ∧ i = .int .i64 k ∧ l = .int .i64 L ∧ Hid (k < n → L < 16 * s.bd k + s.pd k) ∧ Below w.heap.size w wr) (fun _ i _ => n - (intOf i).toNat)
  case atStart => exact ⟨0, -1, Nat.zero_le _, rfl, rfl, Lib.hid (fun h => by have := HG.out.2.1 0 h; omega), Below.refl _ _⟩
  case round =>
    obtain ⟨k, L, hk, rfl, rfl, HL, hb⟩ := hrel
    have HD := Lib.hid hb
    have hzr := hb.size
    clear hb
    by_cases hlt : ¬ k < n
    · have hlt' : ¬ (k : Int) < (n : Int) := by omega
      go_wp2_with fail
      go_ret
      exact ⟨rfl, HD.out⟩
    have hlt : k < n := by omega
    have hlt' : (k : Int) < (n : Int) := by omega
    obtain ⟨rb, ro, rfl, _, r0, r1, r2, r3⟩ := stk_at (HR.out.below (HD.out.mono hB)) hlt
    have r2' : wr.cell? ⟨rb, ro + k * 4 + 1 + 1, none⟩ = _ := r2
    have r3' : wr.cell? ⟨rb, ro + k * 4 + 2 + 1, none⟩ = _ := r3
    have hgk := HG.out.2.1 k hlt
    have HNX : Hid (k + 1 < n → 16 * s.bd k + s.pd k < 16 * s.bd (k + 1) + s.pd (k + 1)) := Lib.hid (HG.out.2.2 k)
    have hLk := HL.out hlt
    generalize s.bd k = x0 at *
    generalize s.pd k = x1 at *
    generalize s.dp k = x2 at *
    generalize s.rt k = x3 at *
    obtain ⟨⟨a0, a0'⟩, ⟨a1, a1'⟩, ⟨a2, a2'⟩, a3, a3'⟩ := hgk
    have hw1 : IntKind.i64.wrap (16 * x0) = 16 * x0 := IntWalk.i64_in _ ⟨by omega, by omega⟩
    have hw2 : IntKind.i64.wrap (16 * x0 + x1) = 16 * x0 + x1 := IntWalk.i64_in _ ⟨by omega, by omega⟩
    have hle : ¬ (16 * x0 + x1 ≤ L) := by omega
    have i0 := in_yes x0 63
    have i1 := in_yes x1 15
    have i2 := in_yes x2 1073741824
    have i3 := in_yes x3 1048576
    go_upto_region 7 with fail
    obtain ⟨e1, he1⟩ : ∃ zz, zz = wr.alloc (.cells #[.int .i64 x0, .int .i64 x1, .int .i64 x2, .int .i64 x3] 65) := ⟨_, rfl⟩
    have HX1 : Hid (Blk e1 wr.heap.size 65 #[.int .i64 x0, .int .i64 x1, .int .i64 x2, .int .i64 x3]) := Lib.hid (he1 ▸ Blk.new _ _ _)
    have HL1 : Hid (Below w.heap.size w e1) := Lib.hid (he1 ▸ HD.out.alloc hzr _)
    rw [← he1]
    clear he1 r0 r1 r2 r3 r2' r3' HD HL
    have x00 : e1.cell? ⟨wr.heap.size, 0, none⟩ = some (.int .i64 x0) := HX1.out.cell 0
    have x01 : e1.cell? ⟨wr.heap.size, 1, none⟩ = some (.int .i64 x1) := HX1.out.cell 1
    have x02 : e1.cell? ⟨wr.heap.size, 2, none⟩ = some (.int .i64 x2) := HX1.out.cell 2
    have x03 : e1.cell? ⟨wr.heap.size, 3, none⟩ = some (.int .i64 x3) := HX1.out.cell 3
    have x02' : e1.cell? ⟨wr.heap.size, 1 + 1, none⟩ = some (.int .i64 x2) := HX1.out.cell 2
    have x03' : e1.cell? ⟨wr.heap.size, 2 + 1, none⟩ = some (.int .i64 x3) := HX1.out.cell 3
    go_wp2_with fail
    refine (in_yes _ _ _ a0 a0').mono ?_
    rintro e u ⟨rfl, rfl⟩
    go_wp2_with fail
    refine (in_yes _ _ _ a1 a1').mono ?_
    rintro e u ⟨rfl, rfl⟩
    go_wp2_with fail
    refine (in_yes _ _ _ a2 a2').mono ?_
    rintro e u ⟨rfl, rfl⟩
    go_wp2_with fail
    refine (in_yes _ _ _ a3 a3').mono ?_
    rintro e u ⟨rfl, rfl⟩
    go_wp2_with fail
    go_roundw
    case rel => exact ⟨k + 1, _, by omega, by go_num, rfl, HNX, HL1.out⟩
    case measure => simp [intOf]; omega

set_option maxRecDepth 100000 in
theorem clos_58 (bd t : Int) (rA sA : Option Addr) (rn rc sn sc : Nat) (w : World) (h1 : 0 ≤ bd ∧ bd ≤ 63) (h2 : 0 ≤ t ∧ t ≤ 63) : Calls Tryz.prog 58 #[.agg #[.int .i64 bd, .slice rA rn rc, .slice sA sn sc], .int .i64 t] w fun e w' => e = .returned (.int .i64 (bd - t)) ∧ Below w.heap.size w w' := by
  obtain ⟨w0, hw0⟩ : ∃ zz, zz = w.alloc (.cells #[.int .i64 bd, .slice rA rn rc, .slice sA sn sc] 49) := ⟨_, rfl⟩
  have HK0 : Hid (Blk w0 w.heap.size 49 #[.int .i64 bd, .slice rA rn rc, .slice sA sn sc]) := Lib.hid (hw0 ▸ Blk.new _ _ _)
  have HB0 : Hid (Below w.heap.size w w0) := Lib.hid (hw0 ▸ below_alloc _ _)
  have c0 : w0.cell? ⟨w.heap.size, 0, none⟩ = some (.int .i64 bd) := HK0.out.cell 0
  have hw1 : IntKind.i64.wrap (bd - t) = bd - t := IntWalk.i64_in _ ⟨by omega, by omega⟩
  have HW := Lib.hid hw0
  clear hw0
  go_enter Tryz.func58, Tryz.ntmps58
  go_upto_region 1 with fail
  rw [← HW.out]
  clear HW
  go_wp2_with fail
  go_ret
  exact ⟨rfl, HB0.out⟩

set_option maxRecDepth 100000 in
set_option maxHeartbeats 2000000 in
/-- the least of two -/
theorem least_59 (a : Int) (A : Option Addr) (c B : Nat) (f : Nat → Int) (w : World) (hr : Rd w B A 1 (fun j => .int .i64 (f j))) :
    Calls Tryz.prog 59 #[.int .i64 a, .slice A 1 c] w fun e w' => e = .returned (.int .i64 (min a (f 0))) ∧ w = w' := by
  obtain ⟨b, o, rfl, _, hc⟩ := hr (by omega)
  have c0 : w.cell? ⟨b, o, none⟩ = some (.int .i64 (f 0)) := hc 0 (by omega)
  clear hc hr
  generalize f 0 = y at *
  generalize hm : min a y = m
  have HM := Lib.hid hm
  clear hm
  go_enter Tryz.func59, Tryz.ntmps59
  go_wp2_with fail
  go_loopw [0, 9] (fun s i wr => ∃ (k : Nat), k ≤ 1 ∧ i = .int .i64 k ∧ s = .int .i64 (if k = 0 then a else m) ∧ w = wr) (fun _ i _ => 1 - (intOf i).toNat)
  case atStart => exact ⟨0, Nat.zero_le _, rfl, rfl, rfl⟩
  case round =>
    obtain ⟨k, hk, rfl, rfl, rfl⟩ := hrel
    by_cases h : k = 0
    · subst h
      go_wp2_with fail
      go_roundw
      case rel => exact ⟨1, by omega, by go_num, by rw [HM.out]; rfl, by trivial⟩
      case measure => simp [intOf]
    · have : k = 1 := by omega
      subst this
      go_wp2_with fail
      go_ret
      exact ⟨rfl, rfl⟩

/-- the bodies rise -/
def Rises (m : Nat) (bd : Nat → Int) : Prop := ∀ a b, a < b → b < m → bd a < bd b
theorem eg_58 : ∀ args w, (callFunc 58 args).run Tryz.prog w = .ok (.enter 58 args) w := enters_of Tryz.func58 (by kernel_rfl) rfl
set_option maxRecDepth 100000 in
set_option maxHeartbeats 2000000 in
/-- a body that is there is found -/
theorem bin_57 (A : Option Addr) (m c B k : Nat) (t : Int) (p : PastF) (w : World) (hm : m ≤ 256) (hB : B ≤ w.heap.size) (hr : Rd w B A (m * 3) p.cells) (hri : Rises m p.bd) (hbd : ∀ j, j < m → 0 ≤ p.bd j ∧ p.bd j ≤ 63) (hk : k < m) (ht : t = p.bd k) :
    Calls Tryz.prog 57 #[.slice A m c, .int .i64 t, .func (.func 58) #[] #[]] w fun e w' => e = .returned (.tuple #[.int .i64 k, .bool true]) ∧ Below w.heap.size w w' := by
  have HR := Lib.hid hr
  have HBD := Lib.hid hbd
  have HT := Lib.hid ht
  have hbt : 0 ≤ t ∧ t ≤ 63 := by rw [ht]; exact hbd k hk
  have HC : Hid (∀ j, j < m → ∀ W, Calls Tryz.prog 58 #[.agg #[.int .i64 (p.bd j), .slice (p.rA j) (p.rn j) (p.rc j), .slice (p.sA j) (p.sn j) (p.sc j)], .int .i64 t] W fun e w' => e = .returned (.int .i64 (p.bd j - t)) ∧ Below W.heap.size W w') := Lib.hid fun j hj W => clos_58 _ _ _ _ _ _ _ _ W (hbd j hj) hbt
  have HLT : Hid (∀ j, j < m → (p.bd j - t < 0 → j < k) ∧ (¬ p.bd j - t < 0 → k ≤ j)) := Lib.hid fun j hj => ⟨fun h => by
    rcases Nat.lt_or_ge j k with h2 | h2
    · exact h2
    · rcases Nat.eq_or_lt_of_le h2 with h3 | h3
      · subst h3; omega
      · have := hri k j h3 hj; omega, fun h => by
    rcases Nat.lt_or_ge j k with h2 | h2
    · have := hri j k h2 hk; omega
    · exact h2⟩
  clear hr hri hbd ht
  go_enter Tryz.func57, Tryz.ntmps57
  go_wp2_with fail
  go_loopw [9, 10] (fun s5 s6 wr => ∃ (lo hi : Nat), s5 = .int .i64 lo ∧ s6 = .int .i64 hi ∧ lo ≤ k ∧ k ≤ hi ∧ hi ≤ m ∧ Below w.heap.size w wr) (fun s5 s6 _ => (intOf s6).toNat - (intOf s5).toNat)
  case atStart => exact ⟨0, m, rfl, rfl, Nat.zero_le _, by omega, Nat.le_refl _, Below.refl _ _⟩
  case round =>
    obtain ⟨lo, hi, rfl, rfl, hlo, hhi, hin, hb⟩ := hrel
    have HBl := Lib.hid hb
    clear hb
    by_cases hlt : lo < hi
    · have hmid : (lo + hi) / 2 < m := by omega
      have hc := Lib.hid (HC.out ((lo + hi) / 2) hmid wr)
      obtain ⟨l1, l2⟩ := HLT.out ((lo + hi) / 2) hmid
      obtain ⟨rb, ro, rfl, _, r0, r1, r2⟩ := pcc_at (HR.out.below (HBl.out.mono hB)) hmid
      have r2' : wr.cell? ⟨rb, ro + (lo + hi) / 2 * 3 + 1 + 1, none⟩ = _ := r2
      have L1 := Lib.hid l1
      have L2 := Lib.hid l2
      clear l1 l2
      generalize p.bd ((lo + hi) / 2) = x0 at *
      generalize p.rA ((lo + hi) / 2) = x1 at *
      generalize p.rn ((lo + hi) / 2) = x2 at *
      generalize p.rc ((lo + hi) / 2) = x3 at *
      generalize p.sA ((lo + hi) / 2) = x4 at *
      generalize p.sn ((lo + hi) / 2) = x5 at *
      generalize p.sc ((lo + hi) / 2) = x6 at *
      obtain ⟨d, hd⟩ : ∃ d, d = x0 - t := ⟨_, rfl⟩
      rw [← hd] at L1 L2 hc
      clear hd
      by_cases hp : d < 0
      · go_wp2_with fail
        refine hc.out.mono ?_
        rintro e w' ⟨rfl, hb'⟩
        have HB' := Lib.hid (below_then HBl.out hb' (Nat.le_refl _))
        clear hb'
        go_wp2_with fail
        go_roundw
        case rel => exact ⟨(lo + hi) / 2 + 1, hi, by rw [show ((lo : Int) + (hi : Int)) / 2 + 1 = (((lo + hi) / 2 + 1 : Nat) : Int) by omega], rfl, L1.out hp, hhi, hin, HB'.out⟩
        case measure => simp [intOf]; omega
      · go_wp2_with fail
        refine hc.out.mono ?_
        rintro e w' ⟨rfl, hb'⟩
        have HB' := Lib.hid (below_then HBl.out hb' (Nat.le_refl _))
        clear hb'
        go_wp2_with fail
        go_roundw
        case rel => exact ⟨lo, (lo + hi) / 2, rfl, by rw [show ((lo : Int) + (hi : Int)) / 2 = (((lo + hi) / 2 : Nat) : Int) by omega], hlo, L2.out hp, by omega, HB'.out⟩
        case measure => simp [intOf]; omega
    · obtain rfl : lo = k := by omega
      obtain rfl : hi = lo := by omega
      have hlm : (hi : Int) < (m : Int) := by omega
      have hc := HC.out hi hk wr
      obtain ⟨rb, ro, rfl, _, r0, r1, r2⟩ := pcc_at (HR.out.below (HBl.out.mono hB)) hk
      have r2' : wr.cell? ⟨rb, ro + hi * 3 + 1 + 1, none⟩ = _ := r2
      rw [show p.bd hi - t = 0 by have := HT.out; omega] at hc
      have hc := Lib.hid hc
      clear hlt hhi HLT
      generalize p.bd hi = x0 at *
      generalize p.rA hi = x1 at *
      generalize p.rn hi = x2 at *
      generalize p.rc hi = x3 at *
      generalize p.sA hi = x4 at *
      generalize p.sn hi = x5 at *
      generalize p.sc hi = x6 at *
      go_wp2_with fail
      refine hc.out.mono ?_
      rintro e w' ⟨rfl, hb'⟩
      have HB' := Lib.hid (below_then HBl.out hb' (Nat.le_refl _))
      clear hb'
      go_wp2_with fail
      refine bodyPost_ret (results_tmp2 rfl _ _ _) rfl ?_
      exact ⟨rfl, HB'.out⟩
end Go.Proofs.YtonkjnkokikpgaaGreat
