/- Contract of each: the iterator over the cases that were read. -/
import Derived.Test.YtbojjhdcmogjdaaFirst
import Derived.Test.YtbojjhdcmogjdaaRound
namespace Go.Proofs.Ytbojjhdcmogjdaa
open Go.RowKit

attribute [local go_sem] Oper.semAt_some

/-- the values that are yielded -/
def dcv (x : Nat → Int) (f r : Nat → Nat) (k : Nat) : Value := .agg #[.int .i64 (x k), .int .u64 (f k : Nat), .int .u64 (r k : Nat)]
/-- the first k indices -/
def ups (k : Nat) : List Nat := List.range k
theorem ups_succ (k : Nat) : ups (k + 1) = ups k ++ [k] := by simp [ups, List.range_succ]
theorem ups_len (k : Nat) : (ups k).length = k := by simp [ups]

/-- an index that fits -/
def ix (n k : Nat) : Nat := if k < n then k else 0
theorem ix_lt {n k : Nat} (h : 0 < n) : ix n k < n := by unfold ix; split <;> omega
theorem ix_of {n k : Nat} (h : k < n) : ix n k = k := if_pos h

set_option maxRecDepth 100000 in
set_option maxHeartbeats 4000000 in
theorem each1_in (F : Fence) (m : Nat) (h42 : F.fn 42) (hro : F.round = none) (hm : 1 ≤ m) (l g n₀ n c B : Nat) (A : Option Addr) (x : Nat → Int) (f r : Nat → Nat) (v0 v1 : Value) (hn : n ≤ 64) (J Jx : List Nat → World → Prop)
    (hY : ∀ pre k W, J pre W → pre.length < n → YieldAt F (m - 1) Try.prog l #[.int .i64 (ix n k : Nat), dcv x f r (ix n k)] W fun e W' =>
      (e = .returned (.bool true) ∧ J (pre ++ [k]) W' ∧ Below n₀ W W') ∨ (e = .returned (.bool false) ∧ Jx (pre ++ [k]) W'))
    (W : World) (hn₀ : n₀ ≤ W.heap.size) (hJ : ∀ s A o, W.heap.size ≤ A.heap.size → J s A → J s (A.alloc o)) (hb : Blk W g 52 #[v0, v1, .slice A n c]) (hB : B ≤ n₀) (hr : Rd W B A (n * 3) (d3 x f r)) (h0 : J [] W) :
    CallsIn F m Try.prog 42 #[.func (.yield l) #[] #[], .pointer (some ⟨g, 0, none⟩)] W fun e W' => (∃ v, e = .returned v) ∧
      ((∃ ys, ys = ups n ∧ J ys W') ∨ (∃ pre, (∃ k, k < n ∧ pre = ups k ++ [k]) ∧ Jx pre W')) := by
  have HR := Lib.hid hr
  have HJ := Lib.hid hJ
  have cg2 : W.cell? ⟨g, 2, none⟩ = some (.slice A n c) := hb.cell 2
  have hn' : (n : Int) ≤ 64 := by omega
  clear hr hJ hb
  refine callsIn_of_wp Try.func42 rfl h42 ?_ hro
  simp only [Try.ntmps42, List.size_toArray, List.length_cons, List.length_nil, Nat.reduceAdd, Nat.reduceSub, Array.replicate_succ, Array.replicate_zero, List.push_toArray, List.append_toArray, List.nil_append, List.cons_append]
  gi_wp2
  gi_loopw [8] (fun q wr => ∃ k : Nat, k ≤ n ∧ q = .int .i64 k ∧ J (ups k) wr ∧ Below n₀ W wr) (fun q _ => n - (intOf q).toNat)
  case atStart => exact ⟨0, Nat.zero_le _, rfl, h0, Below.refl _ _⟩
  case round =>
    obtain ⟨k, hk, rfl, hJs, hnx⟩ := hrel
    by_cases hlt : k < n
    · have hlt' : (k : Int) < n := by omega
      obtain ⟨b, off, rfl, _, c0, c1, c2⟩ := rd3_at (HR.out.below (hnx.mono hB)) hlt
      have hsz := hnx.size
      have hbn := hnx.alloc (Nat.le_trans hn₀ hsz) (.cells #[.int .i64 (x k), .int .u64 (f k : Nat), .int .u64 (r k : Nat)] 59)
      obtain ⟨fn, tmps, assign, body, hy, hR⟩ := hY _ k _ (HJ.out _ _ (.cells #[.int .i64 (x k), .int .u64 (f k : Nat), .int .u64 (r k : Nat)] 59) hsz hJs) (by have := ups_len k; omega)
      rw [ix_of hlt] at hy
      dsimp only [dcv] at hy
      gi_wp2
      refine hR.mono ?_
      rintro e W3 (⟨rfl, hJ3, hk3⟩ | ⟨rfl, hJx3⟩)
      · gi_wp2
        go_roundw
        case rel => exact ⟨k + 1, by omega, by simp, by rw [ups_succ]; exact hJ3, hbn.trans hk3⟩
        case measure => simp [intOf]; omega
      · gi_wp2
        refine bodyPost_ret (results_none rfl _ _ _) rfl ?_
        exact ⟨⟨_, rfl⟩, .inr ⟨_, ⟨k, hlt, rfl⟩, hJx3⟩⟩
    · obtain rfl : k = n := by omega
      gi_wp2
      go_end0
      exact ⟨⟨_, rfl⟩, .inl ⟨_, rfl, hJs⟩⟩

/-- what each hands back -/
theorem each_stops (m : Nat) (hm : 1 ≤ m) (g n₀ n c B : Nat) (A : Option Addr) (x : Nat → Int) (f r : Nat → Nat) (v0 v1 : Value) (hn : n ≤ 64) (w : World) (hn₀ : n₀ ≤ w.heap.size)
    (hb : Blk w g 52 #[v0, v1, .slice A n c]) (hB : B ≤ n₀) (hr : Rd w B A (n * 3) (d3 x f r)) :
    SeqStopsK Fence.wide m Try.prog 42 #[.pointer (some ⟨g, 0, none⟩)] (fun k : Nat => #[.int .i64 (ix n k : Nat), dcv x f r (ix n k)]) (Below n₀) (fun ys => ys = ups n) (fun pre => ∃ k, k < n ∧ pre = ups k ++ [k]) n w := fun l J Jx W hW hJ _ hY h0 => by
  have hsz := hW.size
  exact each1_in Fence.wide m trivial rfl hm l g n₀ n c B A x f r v0 v1 hn J Jx hY W (by omega) (fun s A o hA hs => hJ s A _ none hs (World.grownBy_alloc A o none) (by rintro r ⟨⟩)) (hb.below hW hb.lt) hB (Rd.below hr (hW.mono (Nat.le_trans hB hn₀))) h0

set_option maxHeartbeats 1000000 in
theorem each_26 (v0 v1 v2 : Value) (w : World) :
    Calls Try.prog 26 #[.agg #[v0, v1, v2]] w fun e w' => e = .returned (.func (.func 42) #[] #[.pointer (some ⟨w.heap.size, 0, none⟩)]) ∧ w.alloc (.cells #[v0, v1, v2] 52) = w' := by
  go_enter Try.func26, Try.ntmps26
  go_wp2_with fail
  go_ret
  exact ⟨rfl, rfl⟩
end Go.Proofs.Ytbojjhdcmogjdaa
