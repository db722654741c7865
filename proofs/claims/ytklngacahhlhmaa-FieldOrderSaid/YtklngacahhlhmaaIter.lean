/- Contract of the iterator over all points but one: at most 64 points. -/
import Derived.Test.YtklngacahhlhmaaKeys
import Derived.Test.YtklngacahhlhmaaRound
namespace Go.Proofs.Ytklngacahhlhmaa
open Go.RowKit
open Pl (inv eQ Cg sumN prodN lagr)

attribute [local go_sem] Oper.semAt_some

/-- the indices below n, but i -/
def oth (i n : Nat) : List Nat := (List.range n).filter fun k => k != i
theorem oth_pass {i : Nat} : oth i (i + 1) = oth i i := by simp [oth, List.range_succ]
theorem oth_take {i k : Nat} (h : k ≠ i) : oth i (k + 1) = oth i k ++ [k] := by simp [oth, List.range_succ, h]
theorem oth_len (i k : Nat) : (oth i k).length ≤ k := by
  have := List.length_filter_le (fun j => j != i) (List.range k)
  simpa [oth] using this

/-- what a round must leave alone: what lay below n₀, and two blocks more -/
def KpO (n₀ Bs Bi : Nat) (W W' : World) : Prop := Below n₀ W W' ∧ W'.heap[Bs]? = W.heap[Bs]? ∧ W'.heap[Bi]? = W.heap[Bi]?
theorem KpO.refl {n₀ Bs Bi : Nat} (W : World) : KpO n₀ Bs Bi W W := ⟨Below.refl _ _, rfl, rfl⟩
theorem KpO.trans {n₀ Bs Bi : Nat} {A B C : World} (h : KpO n₀ Bs Bi A B) (k : KpO n₀ Bs Bi B C) : KpO n₀ Bs Bi A C := ⟨h.1.trans k.1, k.2.1.trans h.2.1, k.2.2.trans h.2.2⟩
theorem KpO.alloc {n₀ Bs Bi : Nat} {A B : World} (h : KpO n₀ Bs Bi A B) (hn : n₀ ≤ B.heap.size) (hs : Bs < B.heap.size) (hi : Bi < B.heap.size) (o : Obj) : KpO n₀ Bs Bi A (B.alloc o) :=
  h.trans ⟨Below.mono (below_alloc B o) hn, Below.heap_alloc B o Bs hs, Below.heap_alloc B o Bi hi⟩
theorem KpO.cells {n₀ Bs Bi : Nat} {A B : World} (h : KpO n₀ Bs Bi A B) (j : Nat) : B.cell? ⟨Bs, j, none⟩ = A.cell? ⟨Bs, j, none⟩ := World.cell?_of_block (w := A) h.2.1
theorem KpO.celli {n₀ Bs Bi : Nat} {A B : World} (h : KpO n₀ Bs Bi A B) (j : Nat) : B.cell? ⟨Bi, j, none⟩ = A.cell? ⟨Bi, j, none⟩ := World.cell?_of_block (w := A) h.2.2

def ptv (X Y : Nat → Int) (k : Nat) : Value := .agg #[.int .i64 (X k), .int .i64 (Y k)]

set_option maxRecDepth 100000 in
set_option maxHeartbeats 2000000 in
theorem others1_in (F : Fence) (m : Nat) (h28 : F.fn 28) (hro : F.round = none) (hm : 1 ≤ m) (l Bs Bi n₀ n c i : Nat) (A : Option Addr) (X Y : Nat → Int) (hn : n ≤ 64) (J Jx : List Nat → World → Prop)
    (hY : ∀ pre x W, J pre W → pre.length < n → YieldAt F (m - 1) Try.prog l #[ptv X Y x] W fun e W' =>
      (e = .returned (.bool true) ∧ J (pre ++ [x]) W' ∧ KpO n₀ Bs Bi W W') ∨ (e = .returned (.bool false) ∧ Jx (pre ++ [x]) W'))
    (W : World) (hn₀ : n₀ ≤ W.heap.size) (hJ : ∀ s A o, W.heap.size ≤ A.heap.size → J s A → J s (A.alloc o)) (hs : Bs < W.heap.size) (hBs : W.cell? ⟨Bs, 0, none⟩ = some (.slice A n c)) (hBi : W.cell? ⟨Bi, 0, none⟩ = some (.int .i64 i)) (hr : RdP W n₀ A n X Y) (h0 : J [] W) :
    CallsIn F m Try.prog 28 #[.func (.yield l) #[] #[], .pointer (some ⟨Bs, 0, none⟩), .pointer (some ⟨Bi, 0, none⟩)] W fun e W' => (∃ v, e = .returned v) ∧
      ((∃ ys, ys = oth i n ∧ J ys W') ∨ (∃ pre, (∃ k, k ≤ n ∧ pre = oth i k) ∧ Jx pre W')) := by
  have HR := Lib.hid hr
  have HJ := Lib.hid hJ
  have HBi := Lib.hid hBi
  clear hr hJ
  refine callsIn_of_wp Try.func28 rfl h28 ?_ hro
  simp only [Try.ntmps28, List.size_toArray, List.length_cons, List.length_nil, Nat.reduceAdd, Nat.reduceSub, Array.replicate_succ, Array.replicate_zero, List.push_toArray, List.append_toArray, List.nil_append, List.cons_append]
  gi_wp2
  gi_loopw [8] (fun q wr => ∃ k : Nat, k ≤ n ∧ q = .int .i64 k ∧ J (oth i k) wr ∧ KpO n₀ Bs Bi W wr) (fun q _ => n - (intOf q).toNat)
  case atStart => exact ⟨0, Nat.zero_le _, rfl, h0, KpO.refl _⟩
  case round =>
    obtain ⟨k, hk, rfl, hJs, hnx⟩ := hrel
    by_cases hlt : k < n
    · obtain ⟨b, off, rfl, hb, c1, c2⟩ := RdP.at_ (Rd.below HR.out hnx.1) hlt
      have hbb : b < wr.heap.size := World.block_lt_of_cell? _ _ c1
      have ci : wr.cell? ⟨Bi, 0, none⟩ = some (.int .i64 i) := (hnx.celli 0).trans hBi
      have hib : Bi < wr.heap.size := World.block_lt_of_cell? _ _ ci
      have hsz := hnx.1.size
      by_cases hki : k = i
      · subst hki
        have hne : ((k : Int) != k) = false := by simp
        gi_wp2
        all_goals
          refine ⟨fun _ h => (by cases h), ?_⟩
          gi_wp2
          go_roundw
          case rel => exact ⟨k + 1, by omega, by simp, by rw [oth_pass]; exact HJ.out _ _ _ hsz hJs, hnx.alloc (by omega) (by omega) hib _⟩
          case measure => simp [intOf]; omega
      · have hne : ((k : Int) != i) = true := by rw [bne_iff_ne]; omega
        have hbn := hnx.alloc (by omega) (by omega) hib (.cells #[.int .i64 (X k), .int .i64 (Y k)] 38)
        obtain ⟨fn, tmps, assign, body, hy, hR⟩ := hY _ k _ (HJ.out _ _ (.cells #[.int .i64 (X k), .int .i64 (Y k)] 38) hsz hJs) (by have := oth_len i k; omega)
        dsimp only [ptv] at hy
        gi_wp2
        refine hR.mono ?_
        rintro e W3 (⟨rfl, hJ3, hk3⟩ | ⟨rfl, hJx3⟩)
        · gi_wp2
          go_roundw
          case rel => exact ⟨k + 1, by omega, by simp, by rw [oth_take (by omega)]; exact hJ3, hbn.trans hk3⟩
          case measure => simp [intOf]; omega
        · gi_wp2
          refine bodyPost_ret (results_none rfl _ _ _) rfl ?_
          exact ⟨⟨_, rfl⟩, .inr ⟨_, ⟨k + 1, by omega, (oth_take (by omega)).symm⟩, hJx3⟩⟩
    · obtain rfl : k = n := by omega
      gi_wp2
      go_end0
      exact ⟨⟨_, rfl⟩, .inl ⟨_, rfl, hJs⟩⟩

/-- what others hands back -/
theorem others_stops (m : Nat) (hm : 1 ≤ m) (Bs Bi n₀ n c i : Nat) (A : Option Addr) (X Y : Nat → Int) (hn : n ≤ 64) (w : World) (hn₀ : n₀ ≤ w.heap.size)
    (hBs : w.cell? ⟨Bs, 0, none⟩ = some (.slice A n c)) (hBi : w.cell? ⟨Bi, 0, none⟩ = some (.int .i64 i)) (hr : RdP w n₀ A n X Y) :
    SeqStopsK Fence.wide m Try.prog 28 #[.pointer (some ⟨Bs, 0, none⟩), .pointer (some ⟨Bi, 0, none⟩)] (fun x : Nat => #[ptv X Y x]) (KpO n₀ Bs Bi) (fun ys => ys = oth i n) (fun pre => ∃ k, k ≤ n ∧ pre = oth i k) n w := fun l J Jx W hW hJ _ hY h0 => by
  have h1 : Bs < w.heap.size := World.block_lt_of_cell? _ _ hBs
  have h2 : Bi < w.heap.size := World.block_lt_of_cell? _ _ hBi
  have hsz := hW.size
  exact others1_in Fence.wide m trivial rfl hm l Bs Bi n₀ n c i A X Y hn J Jx hY W (by omega) (fun s A o hA hs => hJ s A _ none hs (World.grownBy_alloc A o none) (by rintro r ⟨⟩)) (by omega)
    ((hW.cell (p := ⟨Bs, 0, none⟩) h1).trans hBs) ((hW.cell (p := ⟨Bi, 0, none⟩) h2).trans hBi) (Rd.below hr (hW.mono hn₀)) h0

set_option maxHeartbeats 1000000 in
theorem others_27 (A : Option Addr) (n c i : Nat) (w : World) :
    Calls Try.prog 27 #[.slice A n c, .int .i64 i] w fun e w' => e = .returned (.func (.func 28) #[] #[.pointer (some ⟨w.heap.size, 0, none⟩), .pointer (some ⟨w.heap.size + 1, 0, none⟩)]) ∧
      (w.alloc (.cells #[.slice A n c] 30)).alloc (.cells #[.int .i64 i] 3) = w' := by
  go_enter Try.func27, Try.ntmps27
  go_wp2_with fail
  go_ret
  exact ⟨rfl, rfl⟩

end Go.Proofs.Ytklngacahhlhmaa
