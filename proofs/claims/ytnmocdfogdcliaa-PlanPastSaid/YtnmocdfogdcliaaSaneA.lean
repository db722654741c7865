/- The chapter's example: what the functions say there. -/
import Derived.Test.YtnmocdfogdcliaaFirm
import Derived.Test.YtnmocdfogdcliaaSpoil
namespace Go.Proofs.Ytnmocdfogdcliaa
open Go.RowKit

/-- one period, in a block of its own -/
theorem per_blk {W : World} {b : Nat} {l h d o s : Int} (hb : Blk W b 50 #[.int .i64 l, .int .i64 h, .int .i64 d, .int .i64 o, .int .i64 s]) : Rd W (b + 1) (some ⟨b, 0, none⟩) (1 * 5) (psc (fun _ => l) (fun _ => h) (fun _ => d) (fun _ => o) (fun _ => s)) := fun _ =>
  ⟨b, 0, rfl, by omega, fun j hj => by
    rw [hb.cell, Nat.zero_add]
    match j, hj with
    | 0, _ => rfl
    | 1, _ => rfl
    | 2, _ => rfl
    | 3, _ => rfl
    | 4, _ => rfl⟩
section
variable (cp st fl l h d o s : Int) (b : Nat) (W : World) (hb : Blk W b 50 #[.int .i64 l, .int .i64 h, .int .i64 d, .int .i64 o, .int .i64 s])
include hb
theorem rob_c (hc : chkE cp st fl 1 (fun _ => l) (fun _ => h) (fun _ => d) (fun _ => o) (fun _ => s) = 0) : Calls Try.prog 12 #[.agg #[.int .i64 cp, .int .i64 st, .int .i64 fl, .slice (some ⟨b, 0, none⟩) 1 1]] W fun e w' =>
    (∃ A, e = .returned (.tuple #[.slice A 2 2, .int .i64 0]) ∧ Rd w' w'.heap.size A (2 * 2) (rsc (rb cp fl 1 (fun _ => l) (fun _ => h) (fun _ => d) (fun _ => o) (fun _ => s)))) ∧ Below W.heap.size W w' :=
  (Robust_12 (b + 1) W (by omega) hb.lt (per_blk hb)).mono fun e w' ⟨⟨A, k, c, he, h1, _⟩, hbl⟩ => by
    rw [hc] at he h1
    obtain ⟨rfl, rfl, hrd⟩ := h1 rfl
    exact ⟨⟨A, he, hrd⟩, hbl⟩
theorem rel_c (x v e0 : Int) (hv : relV cp st fl 1 (fun _ => l) (fun _ => h) (fun _ => d) (fun _ => o) (fun _ => s) 0 x = v) (he : relE cp st fl 1 (fun _ => l) (fun _ => h) (fun _ => d) (fun _ => o) (fun _ => s) 0 x = e0) :
    Calls Try.prog 17 #[.agg #[.int .i64 cp, .int .i64 st, .int .i64 fl, .slice (some ⟨b, 0, none⟩) 1 1], .int .i64 0, .int .i64 x] W fun e w' => e = .returned (.tuple #[.int .i64 v, .int .i64 e0]) ∧ Below W.heap.size W w' := by
  have hh := Release_17 (cp := cp) (st := st) (fl := fl) (pc := 1) (b + 1) 0 x W (by omega) hb.lt (per_blk hb)
  rw [hv, he] at hh
  exact hh
theorem nxt_c (x r q : Int) (V : Value) (hv : nxV cp st fl 1 (fun _ => l) (fun _ => h) (fun _ => d) (fun _ => o) (fun _ => s) 0 x r q = V) :
    Calls Try.prog 19 #[.agg #[.int .i64 cp, .int .i64 st, .int .i64 fl, .slice (some ⟨b, 0, none⟩) 1 1], .int .i64 0, .int .i64 x, .int .i64 r, .int .i64 q] W fun e w' => e = .returned V ∧ Below W.heap.size W w' := by
  have hh := Next_19 (cp := cp) (st := st) (fl := fl) (pc := 1) (b + 1) 0 x r q W (by omega) hb.lt (per_blk hb)
  rw [hv] at hh
  exact hh
theorem spo_c (x r v e0 : Int) (hv : spV cp st fl 1 (fun _ => l) (fun _ => h) (fun _ => d) (fun _ => o) (fun _ => s) 0 x r = v) (he : spE cp st fl 1 (fun _ => l) (fun _ => h) (fun _ => d) (fun _ => o) (fun _ => s) 0 x r = e0) :
    Calls Try.prog 21 #[.agg #[.int .i64 cp, .int .i64 st, .int .i64 fl, .slice (some ⟨b, 0, none⟩) 1 1], .int .i64 0, .int .i64 x, .int .i64 r] W fun e w' => e = .returned (.tuple #[.int .i64 v, .int .i64 e0]) ∧ Below W.heap.size W w' := by
  have hh := Spoil_21 (cp := cp) (st := st) (fl := fl) (pc := 1) (b + 1) 0 x r W (by omega) hb.lt (per_blk hb)
  rw [hv, he] at hh
  exact hh
end
theorem ex_chk (s : Int) (h : s = 0 ∨ s = 1) : chkE 10 4 2 1 (fun _ => 3) (fun _ => 5) (fun _ => 4) (fun _ => 6) (fun _ => s) = 0 := by rcases h with rfl | rfl <;> decide
theorem ex_rb : rb 10 2 1 (fun _ => 3) (fun _ => 5) (fun _ => 4) (fun _ => 6) (fun _ => 0) 0 = (4, 10) ∧ rb 10 2 1 (fun _ => 3) (fun _ => 5) (fun _ => 4) (fun _ => 6) (fun _ => 0) 1 = (2, 10) := by decide
theorem ex_rel : (relV 10 4 2 1 (fun _ => 3) (fun _ => 5) (fun _ => 4) (fun _ => 6) (fun _ => 0) 0 4 = 4 ∧ relE 10 4 2 1 (fun _ => 3) (fun _ => 5) (fun _ => 4) (fun _ => 6) (fun _ => 0) 0 4 = 0) ∧
    (relV 10 4 2 1 (fun _ => 3) (fun _ => 5) (fun _ => 4) (fun _ => 6) (fun _ => 0) 0 10 = 5 ∧ relE 10 4 2 1 (fun _ => 3) (fun _ => 5) (fun _ => 4) (fun _ => 6) (fun _ => 0) 0 10 = 0) ∧
    (relV 10 4 2 1 (fun _ => 3) (fun _ => 5) (fun _ => 4) (fun _ => 6) (fun _ => 0) 0 3 = 0 ∧ relE 10 4 2 1 (fun _ => 3) (fun _ => 5) (fun _ => 4) (fun _ => 6) (fun _ => 0) 0 3 = 390) := by decide
theorem ex_nx : nxV 10 4 2 1 (fun _ => 3) (fun _ => 5) (fun _ => 4) (fun _ => 6) (fun _ => 0) 0 10 5 5 = .tuple #[.int .i64 10, .int .i64 0, .bool true, .int .i64 0] ∧
    nxV 10 4 2 1 (fun _ => 3) (fun _ => 5) (fun _ => 4) (fun _ => 6) (fun _ => 0) 0 10 4 5 = .tuple #[.int .i64 0, .int .i64 0, .bool false, .int .i64 0] ∧
    nxV 10 4 2 1 (fun _ => 3) (fun _ => 5) (fun _ => 4) (fun _ => 6) (fun _ => 1) 0 10 4 5 = .tuple #[.int .i64 10, .int .i64 1, .bool true, .int .i64 0] := ⟨rfl, rfl, rfl⟩
theorem ex_sp : (spV 10 4 4 1 (fun _ => 3) (fun _ => 5) (fun _ => 4) (fun _ => 6) (fun _ => 0) 0 4 4 = 3 ∧ spE 10 4 4 1 (fun _ => 3) (fun _ => 5) (fun _ => 4) (fun _ => 6) (fun _ => 0) 0 4 4 = 0) ∧
    (spV 10 4 4 1 (fun _ => 3) (fun _ => 9) (fun _ => 4) (fun _ => 4) (fun _ => 0) 0 10 4 = 9 ∧ spE 10 4 4 1 (fun _ => 3) (fun _ => 9) (fun _ => 4) (fun _ => 4) (fun _ => 0) 0 10 4 = 0) := by decide
theorem ex_fi : fiV 10 4 2 1 (fun _ => 3) (fun _ => 5) (fun _ => 4) (fun _ => 6) (fun _ => 0) 1 (fun _ => 1) = .tuple #[.int .i64 4, .bool true, .int .i64 0] := by
  have h1 : ∀ j, j < 1 → 0 ≤ (fun _ => 1 : Nat → Int) j ∧ (fun _ => 1 : Nat → Int) j ≤ 1048576 := fun j _ => by show (0 : Int) ≤ 1 ∧ (1 : Int) ≤ 1048576; omega
  have h4 := fiK_spec (cp := 10) (st := 4) (fl := 2) (lo := fun _ => 3) (hi := fun _ => 5) (ou := fun _ => 6) (sp := fun _ => 0) h1 (show 4 < 1048577 by omega)
  have h5 := fiK_spec (cp := 10) (st := 4) (fl := 2) (lo := fun _ => 3) (hi := fun _ => 5) (ou := fun _ => 6) (sp := fun _ => 0) h1 (show 5 < 1048577 by omega)
  have e4 : frmB 10 4 2 1 (fun _ => 3) (fun _ => 5) (fun _ => 6) (fun _ => 0) (fun _ => 1) 4 = true := by decide
  have e5 : frmB 10 4 2 1 (fun _ => 3) (fun _ => 5) (fun _ => 6) (fun _ => 0) (fun _ => 1) 5 = false := by decide
  rw [e4] at h4
  rw [e5] at h5
  have hE : fiE 10 4 2 1 (fun _ => 3) (fun _ => 5) (fun _ => 4) (fun _ => 6) (fun _ => 0) 1 (fun _ => 1) = 0 := by decide
  unfold fiV
  rw [hE]
  generalize fiK 10 4 2 1 (fun _ => 3) (fun _ => 5) (fun _ => 6) (fun _ => 0) (fun _ => 1) = K at h4 h5
  have hK : K = 5 := by
    have a := of_decide_eq_true h4.symm
    have b := of_decide_eq_false h5.symm
    omega
  subst hK
  rfl
theorem ex_fi0 (f : Nat → Int) : fiV 5 0 1 0 f f f f f 0 f = .tuple #[.int .i64 0, .bool false, .int .i64 0] := by
  have h4 := fiK_spec (cp := 5) (st := 0) (fl := 1) (n := 0) (lo := f) (hi := f) (ou := f) (sp := f) (sh := f) (fun j hj => by omega) (show 0 < 1048577 by omega)
  have e4 : frmB 5 0 1 0 f f f f f 0 = false := by rfl
  rw [e4] at h4
  have hE : fiE 5 0 1 0 f f f f f 0 f = 0 := by rfl
  unfold fiV
  rw [hE]
  generalize fiK 5 0 1 0 f f f f f = K at h4
  have hK : K = 0 := by
    have b := of_decide_eq_false h4.symm
    omega
  subst hK
  rfl
theorem ex_chk0 (f : Nat → Int) : chkE 0 0 0 0 f f f f f = 0 ∧ chkE 0 0 1 0 f f f f f = 390 := ⟨rfl, rfl⟩

set_option maxRecDepth 100000 in
set_option maxHeartbeats 4000000 in
theorem one_32 (w : World) : Calls Try.prog 32 #[] w fun e w' => ∃ b, e = .returned (.agg #[.int .i64 10, .int .i64 4, .int .i64 2, .slice (some ⟨b, 0, none⟩) 1 1]) ∧ w.heap.size ≤ b ∧ Blk w' b 50 #[.int .i64 3, .int .i64 5, .int .i64 4, .int .i64 6, .int .i64 0] ∧ Below w.heap.size w w' := by
  go_enter Try.func32, Try.ntmps32
  go_upto_region 1 with fail
  obtain ⟨w1, hw1⟩ : ∃ zz, zz = w.alloc (.cells #[.int .i64 0, .int .i64 0, .int .i64 0, .slice none 0 0] 26) := ⟨_, rfl⟩
  have HK1 : Hid (Blk w1 w.heap.size 26 #[.int .i64 0, .int .i64 0, .int .i64 0, .slice none 0 0]) := Lib.hid (hw1 ▸ Blk.new _ _ _)
  have HB1 : Hid (Below w.heap.size w w1) := Lib.hid (hw1 ▸ below_alloc _ _)
  rw [← hw1]
  clear hw1
  have hlt := HK1.out.lt
  have c0 : w1.cell? ⟨w.heap.size, 0, none⟩ = some (.int .i64 0) := HK1.out.cell 0
  have c1 : w1.cell? ⟨w.heap.size, 1, none⟩ = some (.int .i64 0) := HK1.out.cell 1
  have c2 : w1.cell? ⟨w.heap.size, 2, none⟩ = some (.int .i64 0) := HK1.out.cell 2
  have c3 : w1.cell? ⟨w.heap.size, 3, none⟩ = some (.slice none 0 0) := HK1.out.cell 3
  have f0 := HK1.out.frozen 0
  have f1 := HK1.out.frozen 1
  have f2 := HK1.out.frozen 2
  have f3 := HK1.out.frozen 3
  go_wp2_with fail
  obtain ⟨w2, hw2⟩ : ∃ zz, zz = (((w1.setCell ⟨w.heap.size, 0, none⟩ (.int .i64 10)).setCell ⟨w.heap.size, 1, none⟩ (.int .i64 4)).setCell ⟨w.heap.size, 2, none⟩ (.int .i64 2)).setCell ⟨w.heap.size, 3, none⟩ (.slice (some ⟨w1.heap.size, 0, none⟩) 1 1) := ⟨_, rfl⟩
  have HK2 : Blk w2 w.heap.size 26 #[.int .i64 10, .int .i64 4, .int .i64 2, .slice (some ⟨w1.heap.size, 0, none⟩) 1 1] := hw2 ▸ ((((HK1.out.set_ 0 (.int .i64 10)).set_ 1 (.int .i64 4)).set_ 2 (.int .i64 2)).set_ 3 (.slice (some ⟨w1.heap.size, 0, none⟩) 1 1))
  have hz : w2.heap.size = w1.heap.size := by rw [hw2]; simp [World.setCell]
  have HB2 : Below w.heap.size w w2 := hw2 ▸ ((((HB1.out.setCell (p := ⟨w.heap.size, 0, none⟩) (Nat.le_refl _) _).setCell (p := ⟨w.heap.size, 1, none⟩) (Nat.le_refl _) _).setCell (p := ⟨w.heap.size, 2, none⟩) (Nat.le_refl _) _).setCell (p := ⟨w.heap.size, 3, none⟩) (Nat.le_refl _) _)
  rw [← hw2]
  clear hw2
  rw [← hz] at HK2 ⊢
  refine bodyPost_ret (results_cell_row rfl _ _ _ 26 _ (0, 0) _ rfl (HK2.alloc _) Try.underlying26 rfl (by kernel_rfl)) rfl ?_
  exact ⟨w2.heap.size, rfl, by rw [hz]; exact HB1.out.size, Blk.new _ _ _, HB2.alloc HB2.size _⟩
end Go.Proofs.Ytnmocdfogdcliaa
