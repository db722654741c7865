/- Quotas: rows whose entries are all quotas of known farms; the comparison; swapRange. -/
import Derived.Test.YtonkjnkokikpgaaGreatRobust
import Derived.Lib.BufferOwn
namespace Go.Proofs.YtonkjnkokikpgaaGreat
open Go.RowKit

/-- block g holds m quotas of the first m indices -/
def QB (W : World) (g m : Nat) : Prop := ∃ cur, Blk W g 146 cur ∧ m * 2 ≤ cur.size ∧ ∀ j, j < m → ∃ (x : Nat) (r : Int), x < m ∧ (0 ≤ r ∧ r ≤ 18446744073709551615) ∧ cur[j * 2]? = some (.int .i64 x) ∧ cur[j * 2 + 1]? = some (.int .u64 r)
theorem QB.below {W W' : World} {g m B : Nat} (h : QB W g m) (hb' : Below B W W') (hg : g < B) : QB W' g m := by
  obtain ⟨cur, hb, h2, hc⟩ := h
  exact ⟨cur, hb.below hb' hg, h2, hc⟩
theorem QB.lt {W : World} {g m : Nat} (h : QB W g m) : g < W.heap.size := by
  obtain ⟨cur, hb, _⟩ := h
  exact hb.lt
theorem QB.set_ {W : World} {g m k x : Nat} {r : Int} (h : QB W g m) (hk : k < m) (hx : x < m) (hr : 0 ≤ r ∧ r ≤ 18446744073709551615) : QB ((W.setCell ⟨g, k * 2, none⟩ (.int .i64 x)).setCell ⟨g, k * 2 + 1, none⟩ (.int .u64 r)) g m := by
  obtain ⟨cur, hb, h2, hc⟩ := h
  refine ⟨_, (hb.set_ _ _).set_ _ _, by simpa using h2, fun j hj => ?_⟩
  by_cases e : j = k
  · subst e
    exact ⟨x, r, hx, hr, by rw [set_off _ (by omega)]; exact set_at _ (by omega), set_at _ (by simp; omega)⟩
  · rw [set_off _ (by omega), set_off _ (by omega), set_off _ (by omega), set_off _ (by omega)]
    exact hc j hj
theorem QB.at_ {W : World} {g m k : Nat} (h : QB W g m) (hk : k < m) : ∃ (x : Nat) (r : Int), x < m ∧ (0 ≤ r ∧ r ≤ 18446744073709551615) ∧ W.cell? ⟨g, k * 2, none⟩ = some (.int .i64 x) ∧ W.cell? ⟨g, k * 2 + 1, none⟩ = some (.int .u64 r) ∧ W.frozen? ⟨g, k * 2, none⟩ = false ∧ W.frozen? ⟨g, k * 2 + 1, none⟩ = false := by
  obtain ⟨cur, hb, h2, hc⟩ := h
  obtain ⟨x, r, h1, h2, h3, h4⟩ := hc k hk
  exact ⟨x, r, h1, h2, by rw [hb.cell]; exact h3, by rw [hb.cell]; exact h4, hb.frozen _, hb.frozen _⟩
/-- nothing but block g has turned -/
theorem Below.by_ {W W' : World} {g : Nat} (h : Below W.heap.size W W') : W.grownBy W' (some g) := ⟨h.os, h.tape, h.output, h.size, fun k hk _ => h.block k hk⟩

/-- what the comparison says -/
def cqF (a b : Int) : Int := if b < a then -1 else if a < b then 1 else 0
set_option maxRecDepth 100000 in
theorem isnan_97 (x : Int) (w : World) : Calls Tryz.prog 97 #[.int .u64 x] w fun e w' => e = .returned (.bool false) ∧ w = w' := by
  go_enter Tryz.func97, Tryz.ntmps97
  go_wp2_with fail
  go_ret
  exact ⟨ret_bool (by simp), rfl⟩
set_option maxRecDepth 100000 in
theorem comp_77 (x y : Int) (w : World) : Calls Tryz.prog 77 #[.int .u64 x, .int .u64 y] w fun e w' => e = .returned (.int .i64 (cqF y x)) ∧ w = w' := by
  have HV : Hid (cqF y x = if x < y then -1 else if y < x then 1 else 0) := Lib.hid rfl
  generalize cqF y x = v at HV ⊢
  go_enter Tryz.func77, Tryz.ntmps77
  go_wp2_with fail
  refine (isnan_97 _ _).mono ?_
  rintro e u ⟨rfl, rfl⟩
  go_wp2_with fail
  refine (isnan_97 _ _).mono ?_
  rintro e u ⟨rfl, rfl⟩
  by_cases h1 : x < y
  · have HV2 := Lib.hid (HV.out.trans (if_pos h1))
    have h1d : decide (x < y) = true := by simpa using h1
    clear h1
    go_wp2_with fail
    go_ret
    exact ⟨by rw [HV2.out]; rfl, rfl⟩
  · have HV2 := HV.out.trans (if_neg h1)
    have h1d : decide (x < y) = false := by simpa using h1
    clear h1
    by_cases h2 : y < x
    · have HV3 := Lib.hid (HV2.trans (if_pos h2))
      clear HV2
      have h2d : decide (y < x) = true := by simpa using h2
      clear h2
      go_wp2_with fail
      go_ret
      exact ⟨by rw [HV3.out]; rfl, rfl⟩
    · have HV3 := Lib.hid (HV2.trans (if_neg h2))
      clear HV2
      have h2d : decide (y < x) = false := by simpa using h2
      clear h2
      go_wp2_with fail
      go_ret
      exact ⟨by rw [HV3.out]; rfl, rfl⟩
set_option maxRecDepth 100000 in
theorem clos_76 (x y a b : Int) (w : World) : Calls Tryz.prog 76 #[.agg #[.int .i64 x, .int .u64 a], .agg #[.int .i64 y, .int .u64 b]] w fun e w' => e = .returned (.int .i64 (cqF a b)) ∧ Below w.heap.size w w' := by
  obtain ⟨w0, hw0⟩ : ∃ zz, zz = (w.alloc (.cells #[.int .i64 x, .int .u64 a] 146)).alloc (.cells #[.int .i64 y, .int .u64 b] 146) := ⟨_, rfl⟩
  have HK0 : Hid (Blk w0 w.heap.size 146 #[.int .i64 x, .int .u64 a]) := Lib.hid (hw0 ▸ (Blk.new _ _ _).alloc _)
  have HK1 : Hid (Blk w0 (w.heap.size + 1) 146 #[.int .i64 y, .int .u64 b]) := Lib.hid (by have := Blk.new (w.alloc (.cells #[.int .i64 x, .int .u64 a] 146)) 146 #[.int .i64 y, .int .u64 b]; rw [World.size_alloc] at this; rw [hw0]; exact this)
  have HB0 : Hid (Below w.heap.size w w0) := Lib.hid (by rw [hw0]; exact (below_alloc _ _).alloc (by simp) _)
  have c0 : w0.cell? ⟨w.heap.size, 1, none⟩ = some (.int .u64 a) := HK0.out.cell 1
  have c1 : w0.cell? ⟨w.heap.size + 1, 1, none⟩ = some (.int .u64 b) := HK1.out.cell 1
  have HW := Lib.hid hw0
  clear hw0
  go_enter Tryz.func76, Tryz.ntmps76
  go_upto_region 1 with fail
  rw [← HW.out]
  clear HW
  go_wp2_with fail
  refine (comp_77 _ _ _).mono ?_
  rintro e u ⟨rfl, rfl⟩
  go_wp2_with fail
  go_ret
  exact ⟨rfl, HB0.out⟩

set_option maxRecDepth 100000 in
set_option maxHeartbeats 2000000 in
theorem swap_109 (g m cap a b n : Nat) (f : Value) (w : World) (hm : m ≤ 600) (hn : 0 < n) (ha : a + n ≤ b) (hb : b + n ≤ m) (hq : QB w g m) :
    Calls Tryz.prog 109 #[.slice (some ⟨g, 0, none⟩) m cap, .int .i64 a, .int .i64 b, .int .i64 n, f] w fun e w' => e = .returned (.tuple #[]) ∧ QB w' g m ∧ w.grownBy w' (some g) := by
  have HQ := Lib.hid hq
  clear hq
  go_enter Tryz.func109, Tryz.ntmps109
  go_wp2_with fail
  go_loopw [10] (fun i wr => ∃ k : Nat, k ≤ n ∧ i = .int .i64 k ∧ Hid (QB wr g m) ∧ Hid (w.grownBy wr (some g))) (fun i _ => n - (intOf i).toNat)
  case atStart => exact ⟨0, Nat.zero_le _, rfl, HQ, Lib.hid (Below.by_ (Below.refl _ _))⟩
  case round =>
    obtain ⟨k, hk, rfl, HQ1, HG1⟩ := hrel
    by_cases hlt : ¬ k < n
    · have hlt' : ¬ (k : Int) < (n : Int) := by omega
      go_wp2_with fail
      go_end0
      exact ⟨rfl, HQ1.out, HG1.out⟩
    have hlt : k < n := by omega
    have hlt' : (k : Int) < (n : Int) := by omega
    obtain ⟨x1, r1, hx1, hr1, p0, p1, p2, p3⟩ := HQ1.out.at_ (k := a + k) (by omega)
    obtain ⟨x2, r2, hx2, hr2, q0, q1, q2, q3⟩ := HQ1.out.at_ (k := b + k) (by omega)
    have HR := Lib.hid (And.intro hr1 hr2)
    clear hr1 hr2
    have d0 : a ≠ b := by omega
    have d1 : (a + k) * 2 ≠ (b + k) * 2 := by omega
    have d2 : (a + k) * 2 ≠ (b + k) * 2 + 1 := by omega
    have d3 : (a + k) * 2 + 1 ≠ (b + k) * 2 := by omega
    have d4 : (a + k) * 2 + 1 ≠ (b + k) * 2 + 1 := by omega
    have hi1 : (a : Int) + (k : Int) < (m : Int) := by omega
    have hi2 : (b : Int) + (k : Int) < (m : Int) := by omega
    go_upto_region 3 with fail
    go_region
    obtain ⟨e2, he2⟩ : ∃ zz, zz = ((((wr.setCell ⟨g, (a + k) * 2, none⟩ (.int .i64 x2)).setCell ⟨g, (a + k) * 2 + 1, none⟩ (.int .u64 r2)).setCell ⟨g, (b + k) * 2, none⟩ (.int .i64 x1)).setCell ⟨g, (b + k) * 2 + 1, none⟩ (.int .u64 r1)).drew := ⟨_, rfl⟩
    have HQ2 : Hid (QB e2 g m) := Lib.hid (by rw [he2]; exact (HQ1.out.set_ (by omega) hx2 HR.out.2).set_ (k := b + k) (by omega) hx1 HR.out.1)
    have HG2 : Hid (w.grownBy e2 (some g)) := Lib.hid (by rw [he2]; exact Lib.grownBy_trans (Lib.grownBy_setB (Lib.grownBy_setB (Lib.grownBy_setB (Lib.grownBy_setB HG1.out _ _) _ _) _ _) _ _) (Below.by_ (Below.refl _ _).drew))
    rw [← he2]
    clear he2 HQ1 HG1 p0 p1 p2 p3 q0 q1 q2 q3
    go_wp2_with fail
    go_roundw
    case rel => exact ⟨k + 1, by omega, by go_num, HQ2, HG2⟩
    case measure => simp [intOf]; omega
end Go.Proofs.YtonkjnkokikpgaaGreat
