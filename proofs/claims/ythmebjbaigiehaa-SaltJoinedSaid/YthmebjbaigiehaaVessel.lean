/- Contracts of the vessel: take and rest. -/
import Derived.Test.YthmebjbaigiehaaBasic
import Derived.RegionTactic
import Derived.BigRegion
import Derived.Deep.DeepCutAuto
namespace Go.Proofs.Ythmebjbaigiehaa
open Go.RowKit

/-- the salt that is taken when n litres more are taken -/
def tkA (L S tL tS n : Int) : Int := if 0 < L then S * (tL + n) / L else tS

theorem grown_set {w w' : World} {g : Nat} (h : w.grownBy w' (some g)) (o : Nat) (u : Value) : w.grownBy (w'.setCell ⟨g, o, none⟩ u) (some g) :=
  ⟨h.os, h.tape, h.output, by have := h.size; simpa [World.setCell] using this, fun k hk hne => (Below.heap_setCell _ _ _ k (fun e => hne (by rw [e]))).trans (h.block k hk hne)⟩
theorem grown_set_new {w w' : World} {row : Option Nat} (h : w.grownBy w' row) {p : Addr} (hp : w.heap.size ≤ p.block) (u : Value) : w.grownBy (w'.setCell p u) row :=
  ⟨h.os, h.tape, h.output, by have := h.size; simpa [World.setCell] using this, fun k hk hne => (Below.heap_setCell _ _ _ k (fun e => by omega)).trans (h.block k hk hne)⟩
theorem grown_alloc {w w' : World} {row : Option Nat} (h : w.grownBy w' row) (o : Obj) : w.grownBy (w'.alloc o) row :=
  ⟨h.os, h.tape, h.output, by have := h.size; simp; omega, fun k hk hne => (Below.heap_alloc _ _ k (by have := h.size; omega)).trans (h.block k hk hne)⟩
theorem grown_refl (w : World) (row : Option Nat) : w.grownBy w row := ⟨rfl, rfl, rfl, Nat.le_refl _, fun _ _ _ => rfl⟩
theorem grown_drewN {w w' : World} {row : Option Nat} (h : w.grownBy w' row) (k : Nat) : w.grownBy (w'.drewN k) row := ⟨h.os, h.tape, h.output, h.size, h.block⟩
theorem grown_below {w w' : World} {g : Nat} (h : w.grownBy w' (some g)) {B : Nat} (hB : B ≤ w.heap.size) (hg : B ≤ g) : Below B w w' :=
  ⟨h.os, h.tape, h.output, h.size, fun k hk => h.block k (by omega) (fun e => by injection e with e; omega)⟩
theorem blk_of_grown {w w' : World} {row : Option Nat} {g : Nat} {t : TypeId} {cs : Array Value} (h : Blk w g t cs) (hg : w.grownBy w' row) (hne : row ≠ some g) : Blk w' g t cs := (hg.block g h.lt (fun e => hne e.symm)).trans h

set_option maxRecDepth 100000 in
set_option maxHeartbeats 2000000 in
theorem take_28 (L S tL tS n : Int) (vb : Nat) (w : World) (hv : Blk w vb 56 #[.int .i64 L, .int .i64 S, .int .i64 tL, .int .i64 tS]) (hL : 0 ≤ L ∧ L ≤ 4294967296) (hS : 0 ≤ S ∧ S ≤ 1073741824) (hn : 0 ≤ n ∧ n ≤ 1073741824) (ht : 0 ≤ tL ∧ tL ≤ 1073741824) (hs : 0 ≤ tS ∧ tS ≤ 4294967296) :
    Calls Try.prog 28 #[.pointer (some ⟨vb, 0, none⟩), .int .i64 n] w fun e w' => e = .returned (.agg #[.int .i64 n, .int .i64 (tkA L S tL tS n - tS)]) ∧ Blk w' vb 56 #[.int .i64 L, .int .i64 S, .int .i64 (tL + n), .int .i64 (tkA L S tL tS n)] ∧ w.grownBy w' (some vb) := by
  have HV := Lib.hid hv
  obtain ⟨hL0, hL1⟩ := hL
  obtain ⟨hS0, hS1⟩ := hS
  obtain ⟨hn0, hn1⟩ := hn
  obtain ⟨ht0, ht1⟩ := ht
  obtain ⟨hs0, hs1⟩ := hs
  have c0 : w.cell? ⟨vb, 0, none⟩ = some (.int .i64 L) := hv.cell 0
  have c1 : w.cell? ⟨vb, 1, none⟩ = some (.int .i64 S) := hv.cell 1
  have c2 : w.cell? ⟨vb, 2, none⟩ = some (.int .i64 tL) := hv.cell 2
  have c3 : w.cell? ⟨vb, 3, none⟩ = some (.int .i64 tS) := hv.cell 3
  have f2 := hv.frozen 2
  have hlt := hv.lt
  clear hv
  go_enter Try.func28, Try.ntmps28
  go_upto_region 3 with fail
  obtain ⟨w3, hw3⟩ : ∃ zz, zz = (w.setCell ⟨vb, 2, none⟩ (.int .i64 (tL + n))).alloc (.cells #[.int .i64 n, .int .i64 0] 24) := ⟨_, rfl⟩
  have HV3 : Hid (Blk w3 vb 56 #[.int .i64 L, .int .i64 S, .int .i64 (tL + n), .int .i64 tS]) := Lib.hid (hw3 ▸ (HV.out.set_ 2 _).alloc _)
  have HR3 : Hid (Blk w3 w.heap.size 24 #[.int .i64 n, .int .i64 0]) := Lib.hid (by have := Blk.new (w.setCell ⟨vb, 2, none⟩ (.int .i64 (tL + n))) 24 #[.int .i64 n, .int .i64 0]; rw [hw3]; simpa [World.setCell] using this)
  have HG3 : Hid (w.grownBy w3 (some vb)) := Lib.hid (hw3 ▸ grown_alloc (grown_set (grown_refl _ _) _ _) _)
  rw [← hw3]
  clear hw3 c0 c1 c2 c3 f2
  have hs3 := HR3.out.lt
  have c0 : w3.cell? ⟨vb, 0, none⟩ = some (.int .i64 L) := HV3.out.cell 0
  have c1 : w3.cell? ⟨vb, 1, none⟩ = some (.int .i64 S) := HV3.out.cell 1
  have c2 : w3.cell? ⟨vb, 2, none⟩ = some (.int .i64 (tL + n)) := HV3.out.cell 2
  have c3 : w3.cell? ⟨vb, 3, none⟩ = some (.int .i64 tS) := HV3.out.cell 3
  have f3 := HV3.out.frozen 3
  have d0 : w3.cell? ⟨w.heap.size, 0, none⟩ = some (.int .i64 n) := HR3.out.cell 0
  have d1 : w3.cell? ⟨w.heap.size, 1, none⟩ = some (.int .i64 0) := HR3.out.cell 1
  have e0 := HR3.out.frozen 0
  have e1 := HR3.out.frozen 1
  by_cases hp : 0 < L
  · have hm0 : 0 ≤ S * (tL + n) := Int.mul_nonneg hS0 (by omega)
    have hm1 : S * (tL + n) ≤ 1073741824 * 2147483648 := Int.mul_le_mul hS1 (by omega) (by omega) (by omega)
    have hmw : IntKind.i64.wrap (S * (tL + n)) = S * (tL + n) := IntWalk.i64_in _ ⟨by omega, by omega⟩
    have hq : (S * (tL + n)).tdiv L = S * (tL + n) / L := Int.tdiv_eq_ediv_of_nonneg hm0
    have hq0 : 0 ≤ S * (tL + n) / L := Int.ediv_nonneg hm0 (by omega)
    have hq1 : S * (tL + n) / L ≤ S * (tL + n) := Int.ediv_le_self _ hm0
    have hqw : IntKind.i64.wrap (S * (tL + n) / L) = S * (tL + n) / L := IntWalk.i64_in _ ⟨by omega, by omega⟩
    have hne : ¬ L = 0 := by omega
    have HT : Hid (tkA L S tL tS n = S * (tL + n) / L) := Lib.hid (if_pos hp)
    go_upto_region 4 with fail
    go_quiet (fail)
    have hq2 : S * (tL + n) / L ≤ 2305843009213693952 := by omega
    clear hq1
    generalize S * (tL + n) / L = q at *
    have HV4 := Lib.hid (HV3.out.drewN nq)
    have HR4 := Lib.hid (HR3.out.drewN nq)
    have HG4 := Lib.hid (grown_drewN HG3.out nq)
    have hs4 : w.heap.size < (w3.drewN nq).heap.size := HR4.out.lt
    clear c0 c1 c2 c3 f3 d0 d1 e0 e1 hmw hq hqw hm0 hm1
    generalize w3.drewN nq = w4 at *
    have c3 : w4.cell? ⟨vb, 3, none⟩ = some (.int .i64 tS) := HV4.out.cell 3
    have f3 := HV4.out.frozen 3
    have d0 : w4.cell? ⟨w.heap.size, 0, none⟩ = some (.int .i64 n) := HR4.out.cell 0
    have d1 : w4.cell? ⟨w.heap.size, 1, none⟩ = some (.int .i64 0) := HR4.out.cell 1
    have e0 := HR4.out.frozen 0
    have e1 := HR4.out.frozen 1
    go_wp2_with fail
    refine bodyPost_ret (results_cell_row rfl _ _ _ 24 _ (0, 0) _ rfl ((((HR4.out.set_ 1 (.int .i64 (q - tS))).far (p := ⟨vb, 3, none⟩) (by simp; omega) (.int .i64 q)).set_ 0 (.int .i64 n)).set_ 1 (.int .i64 (q - tS))) Try.underlying24 rfl (by kernel_rfl)) rfl ?_
    rw [HT.out]
    refine ⟨ret_val (by simp), ?_, ?_⟩
    · exact ((((HV4.out.far (p := ⟨w.heap.size, 1, none⟩) (by simp; omega) _).set_ 3 (.int .i64 q)).far (p := ⟨w.heap.size, 0, none⟩) (by simp; omega) _).far (p := ⟨w.heap.size, 1, none⟩) (by simp; omega) _)
    · exact grown_set_new (grown_set_new (grown_set (grown_set_new HG4.out (Nat.le_refl _) _) _ _) (Nat.le_refl _) _) (Nat.le_refl _) _
  · have hL : L = 0 := by omega
    subst hL
    have HT : Hid (tkA 0 S tL tS n = tS) := Lib.hid (if_neg hp)
    go_wp2_with fail
    refine bodyPost_ret (results_cell_row rfl _ _ _ 24 _ (0, 0) _ rfl ((HR3.out.set_ 0 (.int .i64 n)).set_ 1 (.int .i64 0)) Try.underlying24 rfl (by kernel_rfl)) rfl ?_
    refine ⟨ret_val (by rw [HT.out]; simp), ?_, ?_⟩
    · rw [HT.out]
      exact (HV3.out.far (p := ⟨w.heap.size, 0, none⟩) (by simp; omega) _).far (p := ⟨w.heap.size, 1, none⟩) (by simp; omega) _
    · exact grown_set_new (grown_set_new HG3.out (Nat.le_refl _) _) (Nat.le_refl _) _

set_option maxRecDepth 100000 in
set_option maxHeartbeats 4000000 in
theorem rest_29 (L S tL tS : Int) (vb : Nat) (w : World) (hv : Blk w vb 56 #[.int .i64 L, .int .i64 S, .int .i64 tL, .int .i64 tS]) (hL : 0 ≤ L ∧ L ≤ 4294967296) (hS : 0 ≤ S ∧ S ≤ 4294967296) (ht : 0 ≤ tL ∧ tL ≤ 4294967296) (hs : 0 ≤ tS ∧ tS ≤ 4294967296) :
    Calls Try.prog 29 #[.pointer (some ⟨vb, 0, none⟩)] w fun e w' => e = .returned (.agg #[.int .i64 (L - tL), .int .i64 (S - tS)]) ∧ Below w.heap.size w w' := by
  have HV := Lib.hid hv
  obtain ⟨hL0, hL1⟩ := hL
  obtain ⟨hS0, hS1⟩ := hS
  obtain ⟨ht0, ht1⟩ := ht
  obtain ⟨hs0, hs1⟩ := hs
  have hlt := hv.lt
  have hw1 : IntKind.i64.wrap (L - tL) = L - tL := IntWalk.i64_in _ ⟨by omega, by omega⟩
  have hw2 : IntKind.i64.wrap (S - tS) = S - tS := IntWalk.i64_in _ ⟨by omega, by omega⟩
  clear hv
  go_enter Try.func29, Try.ntmps29
  go_upto_region 1 with fail
  obtain ⟨w3, hw3⟩ : ∃ zz, zz = w.alloc (.cells #[.int .i64 0, .int .i64 0] 24) := ⟨_, rfl⟩
  have HV3 : Hid (Blk w3 vb 56 #[.int .i64 L, .int .i64 S, .int .i64 tL, .int .i64 tS]) := Lib.hid (hw3 ▸ HV.out.alloc _)
  have HR3 : Hid (Blk w3 w.heap.size 24 #[.int .i64 0, .int .i64 0]) := Lib.hid (hw3 ▸ Blk.new _ _ _)
  have HB3 : Hid (Below w.heap.size w w3) := Lib.hid (hw3 ▸ below_alloc _ _)
  rw [← hw3]
  clear hw3
  have c0 : w3.cell? ⟨vb, 0, none⟩ = some (.int .i64 L) := HV3.out.cell 0
  have c1 : w3.cell? ⟨vb, 1, none⟩ = some (.int .i64 S) := HV3.out.cell 1
  have c2 : w3.cell? ⟨vb, 2, none⟩ = some (.int .i64 tL) := HV3.out.cell 2
  have c3 : w3.cell? ⟨vb, 3, none⟩ = some (.int .i64 tS) := HV3.out.cell 3
  have d0 : w3.cell? ⟨w.heap.size, 0, none⟩ = some (.int .i64 0) := HR3.out.cell 0
  have d1 : w3.cell? ⟨w.heap.size, 1, none⟩ = some (.int .i64 0) := HR3.out.cell 1
  have e0 := HR3.out.frozen 0
  have e1 := HR3.out.frozen 1
  go_region
  go_wp2_with fail
  refine bodyPost_ret (results_cell_row rfl _ _ _ 24 _ (0, 0) _ rfl (((HR3.out.set_ 0 (.int .i64 (L - tL))).set_ 1 (.int .i64 (S - tS))).drewN 1) Try.underlying24 rfl (by kernel_rfl)) rfl ?_
  exact ⟨ret_val (by simp), below_quiet ((HB3.out.setCell (p := ⟨w.heap.size, 0, none⟩) (by simp) _).setCell (p := ⟨w.heap.size, 1, none⟩) (by simp) _) ⟨1, rfl⟩⟩
end Go.Proofs.Ythmebjbaigiehaa
