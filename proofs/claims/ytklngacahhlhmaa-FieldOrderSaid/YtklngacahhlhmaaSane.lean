/- The law package examples hold: the function that checks them returns true. No condition. -/
import Derived.Test.YtklngacahhlhmaaAtC
namespace Go.Proofs.Ytklngacahhlhmaa
open Go.RowKit
open Pl (inv eQ Cg sumN prodN lagr)

/-! ### the examples of the chapter -/
theorem inv_neg1 : inv (-1) = 1073741788 := Pl.inv_eq (by rw [Pl.cg_zero]; decide) (by decide) ⟨-1, by decide⟩
theorem lagr_line : lagr 2 (two 1 2) (two 3 5) 0 % 1073741789 = 1 := by
  simp [lagr, sumN, prodN, two, Pl.inv_one, inv_neg1]
theorem dist_line : distB (two 1 2) 2 = true := by decide
theorem dist_twice : distB (two 1 (-1073741788)) 2 = false := by decide
def three (a b c : Int) : Nat → Int | 0 => a | 1 => b | _ => c
theorem three_cells (a b c : Int) : ∀ j, j < #[Value.int .i64 a, Value.int .i64 b, Value.int .i64 c].size → #[Value.int .i64 a, Value.int .i64 b, Value.int .i64 c][j]? = some (.int .i64 (three a b c j)) := by
  intro j hj
  match j, hj with
  | 0, _ => rfl
  | 1, _ => rfl
  | 2, _ => rfl
theorem v_three : vN (three 1 2 3) 10 3 % 1073741789 = 321 := by decide
theorem pts_cells (a b c d : Int) : ∀ j, j < #[Value.int .i64 a, Value.int .i64 b, Value.int .i64 c, Value.int .i64 d].size →
    #[Value.int .i64 a, Value.int .i64 b, Value.int .i64 c, Value.int .i64 d][j]? = some (ptc (two a c) (two b d) j) := by
  intro j hj
  match j, hj with
  | 0, _ => rfl
  | 1, _ => rfl
  | 2, _ => rfl
  | 3, _ => rfl
theorem two_all {a b : Int} (ha : I64 a) (hb : I64 b) : ∀ j, I64 (two a b j)
  | 0 => ha
  | _ + 1 => hb

theorem info38 : (Try.prog.info? 38).map (fun i => (i.zero, i.size, i.bytes)) = some (some (.agg #[.int .i64 0, .int .i64 0]), 2, 16) := by kernel_rfl
/-- make([]api.Point, 65) -/
theorem make65 : ∃ C : Array Value, ∀ w : World, (Instr.makeSlice 30 (.int .i64 65) (.int .i64 65)).run Try.prog w = .ok (.slice (some ⟨w.heap.size, 0, none⟩) 65 65) (w.alloc (.cells C 38)) := by
  obtain ⟨i0, hi, hz0, hz1, hz2⟩ := info_parts info38
  exact ⟨_, fun w => run_make (P := Try.prog) w 30 38 i0 _ Try.underlying30 hi hz0 .i64 .i64 65 65 (by decide) (by decide) (by rw [hz2]; decide) (by decide)⟩

/-- At at two points that lie in a block that was just laid -/
theorem at_pair (a b c d t : Int) (w : World) (ha : I64 a) (hb : I64 b) (hc : I64 c) (hd : I64 d) (ht : I64 t) :
    Calls Try.prog 19 #[.slice (some ⟨w.heap.size, 0, none⟩) 2 2, .int .i64 t] (w.alloc (.cells #[.int .i64 a, .int .i64 b, .int .i64 c, .int .i64 d] 38)) fun e w' =>
      e = .returned (.tuple #[.int .i64 (vAt 2 (two a c) (two b d) t), .int .i64 (eAt 2 (two a c))]) ∧ Below w.heap.size w w' := by
  have hr := rd_new w #[.int .i64 a, .int .i64 b, .int .i64 c, .int .i64 d] 38 _ (pts_cells a b c d)
  refine (at_19 _ 2 2 _ (two a c) (two b d) t _ (by decide) ?_ (fun _ => hr) (two_all ha hc) (two_all hb hd) ht).mono ?_
  · simp
  · rintro e w' ⟨rfl, h⟩
    exact ⟨rfl, (below_alloc _ _).trans (h.mono (by simp))⟩

theorem small (n : Int) (h : -9223372036854775808 ≤ n ∧ n ≤ 9223372036854775807) : I64 n := h

set_option maxRecDepth 100000 in
set_option maxHeartbeats 4000000 in
theorem sane_9 (w : World) : Calls Try.prog 9 #[] w fun e w' => e = .returned (.bool true) ∧ Below w.heap.size w w' := by
  have e1 : vAt 2 (two 1 2) (two 3 5) 0 = 1 := by unfold vAt; rw [if_neg (by decide), if_pos dist_line, lagr_line]
  have e2 : eAt 2 (two 1 2) = 0 := by unfold eAt; rw [if_neg (by decide), if_pos dist_line]
  have e3 : vAt 2 (two 1 (-1073741788)) (two 5 5) 0 = 0 := by unfold vAt; rw [if_neg (by decide), if_neg (by rw [dist_twice]; decide)]
  have e4 : eAt 2 (two 1 (-1073741788)) = 90 := by unfold eAt; rw [if_neg (by decide), if_neg (by rw [dist_twice]; decide)]
  have e5 : vAt 0 (fun _ => 0) (fun _ => 0) 7 = 0 := by decide
  have e6 : eAt 0 (fun _ => 0) = 0 := by decide
  have e7 : ∀ X, eAt 65 X = 2 := fun X => by unfold eAt; rw [if_pos (by decide)]
  have e8 : ∀ X Y t, vAt 65 X Y t = 0 := fun X Y t => by unfold vAt; rw [if_pos (by decide)]
  have g1 : eInv 0 = 90 := by decide
  have g2 : inv 0 = 0 := Pl.inv_zero (Pl.Cg.refl _)
  have g3 : eInv 1073741789 = 90 := by decide
  have g4 : inv 1073741789 = 0 := Pl.inv_zero ⟨1, by decide⟩
  have g5 : eInv 2 = 0 := by decide
  have E1 := Lib.hid e1; have E2 := Lib.hid e2; have E3 := Lib.hid e3; have E4 := Lib.hid e4; have E5 := Lib.hid e5; have E6 := Lib.hid e6; have E7 := Lib.hid e7; have E8 := Lib.hid e8
  have G1 := Lib.hid g1; have G2 := Lib.hid g2; have G3 := Lib.hid g3; have G4 := Lib.hid g4; have G5 := Lib.hid g5
  clear e1 e2 e3 e4 e5 e6 e7 e8 g1 g2 g3 g4 g5
  obtain ⟨C65, hmk⟩ := make65
  go_enter Try.func9, Try.ntmps9
  go_wp2_with fail
  refine (inv_10 _ _ (small _ (by decide))).mono ?_
  rintro e w' ⟨rfl, rfl⟩
  rw [G1.out, G2.out]
  go_wp2_with fail
  refine (inv_10 _ _ (small _ (by decide))).mono ?_
  rintro e w' ⟨rfl, rfl⟩
  rw [G3.out, G4.out]
  go_wp2_with fail
  refine (inv_10 _ _ (small _ (by decide))).mono ?_
  rintro e w' ⟨rfl, rfl⟩
  rw [G5.out, Pl.inv_two]
  go_wp2_with fail
  refine (at_pair 1 3 2 5 0 w (small _ (by decide)) (small _ (by decide)) (small _ (by decide)) (small _ (by decide)) (small _ (by decide))).mono ?_
  rintro e w1 ⟨rfl, hb1⟩
  rw [E1.out, E2.out]
  have B1 := Lib.hid hb1
  clear hb1
  go_wp2_with fail
  refine (at_19 none 0 0 0 (fun _ => 0) (fun _ => 0) 7 _ (by decide) (Nat.zero_le _) (fun _ => Rd.nil) (fun _ => small _ (by decide)) (fun _ => small _ (by decide)) (small _ (by decide))).mono ?_
  rintro e w2 ⟨rfl, hb2⟩
  rw [E5.out, E6.out]
  have B2 := Lib.hid (below_then B1.out hb2 (Nat.le_refl _))
  clear hb2
  go_wp2_with fail
  refine (at_pair 1 5 (-1073741788) 5 0 w2 (small _ (by decide)) (small _ (by decide)) (small _ (by decide)) (small _ (by decide)) (small _ (by decide))).mono ?_
  rintro e w3 ⟨rfl, hb3⟩
  rw [E3.out, E4.out]
  have B3 := Lib.hid (below_then B2.out hb3 (Nat.le_refl _))
  clear hb3
  go_wp2_with fail
  refine (at_19 (some ⟨w3.heap.size, 0, none⟩) 65 65 0 (fun _ => 0) (fun _ => 0) 0 _ (by decide) (Nat.zero_le _) (fun h => absurd h (by decide)) (fun _ => small _ (by decide)) (fun _ => small _ (by decide)) (small _ (by decide))).mono ?_
  rintro e w4 ⟨rfl, hb4⟩
  rw [E8.out, E7.out]
  have B4 := Lib.hid (below_then (below_then B3.out (below_alloc _ _) (Nat.le_refl _)) hb4 (Nat.le_refl _))
  clear hb4
  go_wp2_with fail
  refine (mod_12 _ _ (small _ (by decide))).mono ?_
  rintro e w' ⟨rfl, rfl⟩
  go_wp2_with fail
  refine (mul_16 _ _ _ (small _ (by decide)) (small _ (by decide))).mono ?_
  rintro e w' ⟨rfl, rfl⟩
  go_wp2_with fail
  refine (add_14 _ _ _ (small _ (by decide)) (small _ (by decide))).mono ?_
  rintro e w5 ⟨rfl, hb5⟩
  have B5 := Lib.hid (below_then B4.out hb5 (Nat.le_refl _))
  clear hb5
  go_wp2_with fail
  refine (value_21 (some ⟨w5.heap.size, 0, none⟩) 3 3 (w5.heap.size + 1) (three 1 2 3) 10 _ (by decide) (by simp) (rd_new w5 _ 3 _ (three_cells 1 2 3)) ?_ (small _ (by decide))).mono ?_
  · intro j hj
    match j, hj with
    | 0, _ => exact small _ (by decide)
    | 1, _ => exact small _ (by decide)
    | 2, _ => exact small _ (by decide)
  rintro e w6 ⟨rfl, hb6⟩
  rw [v_three]
  have B6 := Lib.hid (below_then (below_then B5.out (below_alloc _ _) (Nat.le_refl _)) hb6 (Nat.le_refl _))
  clear hb6
  go_wp2_with fail
  refine (value_21 none 0 0 0 (fun _ => 0) 7 _ (by decide) (Nat.zero_le _) Rd.nil (fun _ _ => small _ (by decide)) (small _ (by decide))).mono ?_
  rintro e w7 ⟨rfl, hb7⟩
  have B7 := Lib.hid (below_then B6.out hb7 (Nat.le_refl _))
  clear hb7
  go_wp2_with fail
  go_ret
  exact ⟨rfl, B7.out⟩

end Go.Proofs.Ytklngacahhlhmaa
