/- Contract of the interpolation at points that are not different: at most 64 points. -/
import Derived.Test.YtklngacahhlhmaaIter
namespace Go.Proofs.Ytklngacahhlhmaa
open Go.RowKit Go.Maps
open Pl (inv eQ Cg sumN prodN lagr)

theorem keyed3 : Keyed Try.prog 3 := int_keyed Try.underlying3

theorem bodyPostM_ret {F : Fence} {n : Nat} {P : Program} {fn : Func} {R : Ending → World → Prop} {a : Act} {w : World} {v : Value}
    (hr : (results fn a.tmps).run P w = .ok v w) (hd : a.defers = []) (hR : R (.returned v) w) : bodyPostM F n P fn R .ret a w := by
  show LeavesInM F n P fn a.tmps R a.defers .returning w
  rw [hd]
  exact ⟨_, hr, hR⟩

set_option maxRecDepth 100000 in
set_option maxHeartbeats 2000000 in
theorem at_19_same (A : Option Addr) (n c B : Nat) (X Y : Nat → Int) (t : Int) (w : World) (hn : n ≤ 64) (hB : B ≤ w.heap.size) (hr : RdP w B A n X Y) (hx : ∀ j, j < n → I64 (X j)) (hd : distB X n = false) :
    Calls Try.prog 19 #[.slice A n c, .int .i64 t] w fun e w' => e = .returned (.tuple #[.int .i64 0, .int .i64 90]) ∧ Below w.heap.size w w' := by
  have hmm := @run_makeMap Try.prog
  refine (callsIn_wide (n := 3)).1 (callsIn_of_wp_marks Try.func19 rfl trivial (wpIn_wide.2 ?_))
  simp only [Try.ntmps19, List.size_toArray, List.length_cons, List.length_nil, Nat.reduceAdd, Nat.reduceSub, Array.replicate_succ, Array.replicate_zero, List.push_toArray, List.append_toArray, List.nil_append, List.cons_append]
  have HR := Lib.hid hr
  have HX := Lib.hid hx
  have HD := Lib.hid hd
  clear hr hx hd
  go_wp2_with fail
  go_loopw [22] (fun i wr => ∃ k : Nat, k ≤ n ∧ i = .int .i64 k ∧ wr.ownsMap Try.prog 3 (plainElem Try.prog 4) (w.heap.size + 1) k (setX X k) ∧ Below w.heap.size w wr) (fun i _ => n - (intOf i).toNat)
  case atStart =>
    refine ⟨0, Nat.zero_le _, rfl, ?_, (below_alloc _ _).trans ((below_alloc _ _).mono (by simp))⟩
    rw [setX_zero]
    have := World.ownsMap_made (w.alloc (.cells #[.int .i64 t] 3)) Try.prog 3 (plainElem (H := Unit) Try.prog 4)
    rwa [World.size_alloc] at this
  case round =>
    obtain ⟨k, hk, rfl, hown, hnx⟩ := hrel
    by_cases hlt : k < n
    · obtain ⟨b, off, rfl, _, c1, c2⟩ := RdP.at_ (Rd.below HR.out (hnx.mono hB)) hlt
      have HB := Lib.hid hnx
      have HO := Lib.hid hown
      have HXK := Lib.hid (HX.out k hlt)
      have hbb : b < wr.heap.size := World.block_lt_of_cell? _ _ c1
      clear hnx hown
      go_wp2_with fail
      refine (mod_12 _ _ HXK.out).mono ?_
      rintro e w' ⟨rfl, rfl⟩
      have hkey : keyOf Try.prog 3 (.int .i64 (X k % 1073741789)) = some (litX X k) := keyOf_int_mk Try.underlying3 (WalkArith.wf_i64 (by have := emodQ (X k); omega))
      go_wp2_with (at_mapUpdate; refine wpList_mapUpdate_own _ rfl _ _ _ 43 rfl 3 4 keyed3 Try.underlying43 (plainElem (H := Unit) Try.prog 4) (w.heap.size + 1) k _ rfl (HO.out.alloc _) (by unfold maxLen; omega) _ _ _ rfl rfl hkey _ [] (plainElem_bool Try.underlying4 true) ?_; intro w1 hown1 hgrow1)
      go_roundw
      case rel => exact ⟨k + 1, by omega, by go_num, (setX_succ X k).symm ▸ hown1, (below_then HB.out (below_alloc _ _) (Nat.le_refl _)).grown hgrow1 (by have := HB.out.size; simp; omega) (fun j hj => by cases hj; omega)⟩
      case measure => simp [intOf]; omega
    · obtain rfl : n = k := by omega
      have hsz : Maps.size (setX X n) < n := (setX_len X n).2.2 HD.out
      go_wp2_with (at_len; refine wpList_len_own _ rfl _ 43 rfl 3 4 Try.underlying43 _ (w.heap.size + 1) n _ rfl hown ?_)
      refine bodyPostM_ret (results_tmp2 rfl _ _ _) rfl ?_
      exact ⟨rfl, hnx⟩
end Go.Proofs.Ytklngacahhlhmaa
