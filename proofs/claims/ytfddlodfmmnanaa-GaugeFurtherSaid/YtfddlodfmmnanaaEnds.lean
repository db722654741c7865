/- Contract of the iterator over both ends. No condition. -/
import Derived.Test.YtfddlodfmmnanaaRefStage
import Derived.Test.YtfddlodfmmnanaaRound
namespace Go.Proofs.Ytfddlodfmmnanaa
open Go.RowKit

attribute [local go_sem] Oper.semAt_some

/-- what a round must leave alone: what lay below n₀, and two blocks more -/
def KpO (n₀ Bs Bi : Nat) (W W' : World) : Prop := Below n₀ W W' ∧ W'.heap[Bs]? = W.heap[Bs]? ∧ W'.heap[Bi]? = W.heap[Bi]?
theorem KpO.refl {n₀ Bs Bi : Nat} (W : World) : KpO n₀ Bs Bi W W := ⟨Below.refl _ _, rfl, rfl⟩
theorem KpO.trans {n₀ Bs Bi : Nat} {A B C : World} (h : KpO n₀ Bs Bi A B) (k : KpO n₀ Bs Bi B C) : KpO n₀ Bs Bi A C := ⟨h.1.trans k.1, k.2.1.trans h.2.1, k.2.2.trans h.2.2⟩
theorem KpO.cells {n₀ Bs Bi : Nat} {A B : World} (h : KpO n₀ Bs Bi A B) (j : Nat) : B.cell? ⟨Bs, j, none⟩ = A.cell? ⟨Bs, j, none⟩ := World.cell?_of_block (w := A) h.2.1
theorem KpO.celli {n₀ Bs Bi : Nat} {A B : World} (h : KpO n₀ Bs Bi A B) (j : Nat) : B.cell? ⟨Bi, j, none⟩ = A.cell? ⟨Bi, j, none⟩ := World.cell?_of_block (w := A) h.2.2

set_option maxRecDepth 100000 in
set_option maxHeartbeats 2000000 in
theorem ends1_in (F : Fence) (m : Nat) (h30 : F.fn 30) (hro : F.round = none) (hm : 1 ≤ m) (l Bs Be n₀ : Nat) (s er : Int) (h0s : 0 ≤ s) (hs1 : s ≤ 1048576) (h0e : 0 ≤ er) (he1 : er ≤ 172000) (J Jx : List Int → World → Prop)
    (hY : ∀ pre x W, J pre W → pre.length < 2 → YieldAt F (m - 1) Try.prog l #[.int .i64 x] W fun e W' =>
      (e = .returned (.bool true) ∧ J (pre ++ [x]) W' ∧ KpO n₀ Bs Be W W') ∨ (e = .returned (.bool false) ∧ Jx (pre ++ [x]) W'))
    (W : World) (hBs : W.cell? ⟨Bs, 0, none⟩ = some (.int .i64 s)) (hBe : W.cell? ⟨Be, 0, none⟩ = some (.int .i64 er)) (h0 : J [] W) :
    CallsIn F m Try.prog 30 #[.func (.yield l) #[] #[], .pointer (some ⟨Bs, 0, none⟩), .pointer (some ⟨Be, 0, none⟩)] W fun e W' => (∃ v, e = .returned v) ∧
      ((∃ ys, ys = [max 0 (s - er), min 1048576 (s + er)] ∧ J ys W') ∨ (∃ pre, (pre = [max 0 (s - er)] ∨ pre = [max 0 (s - er), min 1048576 (s + er)]) ∧ Jx pre W')) := by
  have HY1 := Lib.hid (hY [] (max 0 (s - er)) W h0 (by simp))
  have HY2 : Hid (∀ W1, J [max 0 (s - er)] W1 → YieldAt F (m - 1) Try.prog l #[.int .i64 (min 1048576 (s + er))] W1 fun e W' =>
      (e = .returned (.bool true) ∧ J [max 0 (s - er), min 1048576 (s + er)] W' ∧ KpO n₀ Bs Be W1 W') ∨ (e = .returned (.bool false) ∧ Jx [max 0 (s - er), min 1048576 (s + er)] W')) :=
    Lib.hid fun W1 h1 => hY [max 0 (s - er)] (min 1048576 (s + er)) W1 h1 (by simp)
  clear hY h0
  refine callsIn_of_wp Try.func30 rfl h30 ?_ hro
  simp only [Try.ntmps30, List.size_toArray, List.length_cons, List.length_nil, Nat.reduceAdd, Nat.reduceSub, Array.replicate_succ, Array.replicate_zero, List.push_toArray, List.append_toArray, List.nil_append, List.cons_append]
  obtain ⟨fn, tmps, assign, body, hy, hR⟩ := HY1.out
  clear HY1
  gi_wp2
  refine hR.mono ?_
  rintro e W3 (⟨rfl, hJ3, hk3⟩ | ⟨rfl, hJx3⟩)
  · have hBs3 : W3.cell? ⟨Bs, 0, none⟩ = some (.int .i64 s) := (hk3.cells 0).trans hBs
    have hBe3 : W3.cell? ⟨Be, 0, none⟩ = some (.int .i64 er) := (hk3.celli 0).trans hBe
    clear hR hy
    obtain ⟨fn', tmps', assign', body', hy', hR'⟩ := HY2.out W3 hJ3
    clear HY2 hBs hBe
    gi_wp2
    refine hR'.mono ?_
    rintro e W4 (⟨rfl, hJ4, hk4⟩ | ⟨rfl, hJx4⟩)
    · gi_wp2
      go_end0
      exact ⟨⟨_, rfl⟩, .inl ⟨_, rfl, hJ4⟩⟩
    · gi_wp2
      go_end0
      exact ⟨⟨_, rfl⟩, .inr ⟨_, .inr rfl, hJx4⟩⟩
  · gi_wp2
    go_end0
    exact ⟨⟨_, rfl⟩, .inr ⟨_, .inl rfl, hJx3⟩⟩

/-- what ends hands back -/
theorem ends_stops (m : Nat) (hm : 1 ≤ m) (Bs Be n₀ : Nat) (s er : Int) (h0s : 0 ≤ s) (hs1 : s ≤ 1048576) (h0e : 0 ≤ er) (he1 : er ≤ 172000) (w : World)
    (hBs : w.cell? ⟨Bs, 0, none⟩ = some (.int .i64 s)) (hBe : w.cell? ⟨Be, 0, none⟩ = some (.int .i64 er)) :
    SeqStopsK Fence.wide m Try.prog 30 #[.pointer (some ⟨Bs, 0, none⟩), .pointer (some ⟨Be, 0, none⟩)] (fun x : Int => #[.int .i64 x]) (KpO n₀ Bs Be) (fun ys => ys = [max 0 (s - er), min 1048576 (s + er)]) (fun pre => pre = [max 0 (s - er)] ∨ pre = [max 0 (s - er), min 1048576 (s + er)]) 2 w := fun l J Jx W hW _ _ hY h0 => by
  have h1 : Bs < w.heap.size := World.block_lt_of_cell? _ _ hBs
  have h2 : Be < w.heap.size := World.block_lt_of_cell? _ _ hBe
  exact ends1_in Fence.wide m trivial rfl hm l Bs Be n₀ s er h0s hs1 h0e he1 J Jx hY W ((hW.cell (p := ⟨Bs, 0, none⟩) h1).trans hBs) ((hW.cell (p := ⟨Be, 0, none⟩) h2).trans hBe) h0

set_option maxHeartbeats 1000000 in
theorem ends_23 (s er : Int) (w : World) :
    Calls Try.prog 23 #[.int .i64 s, .int .i64 er] w fun e w' => e = .returned (.func (.func 30) #[] #[.pointer (some ⟨w.heap.size, 0, none⟩), .pointer (some ⟨w.heap.size + 1, 0, none⟩)]) ∧
      (w.alloc (.cells #[.int .i64 s] 3)).alloc (.cells #[.int .i64 er] 3) = w' := by
  go_enter Try.func23, Try.ntmps23
  go_wp2_with fail
  go_ret
  exact ⟨rfl, rfl⟩
end Go.Proofs.Ytfddlodfmmnanaa
