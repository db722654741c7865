/- Words for two rows of a call's own that grow side by side. -/
import Derived.Test.YtonkjnkokikpgaaGreatRound
import Derived.Test.YtonkjnkokikpgaaGreatGrow
namespace Go.Proofs.YtonkjnkokikpgaaGreat
open Go.RowKit

theorem info3 : (Tryz.prog.info? 3).map (fun i => (i.zero, i.size, i.bytes)) = some (some (.int .i64 0), 1, 8) := by kernel_rfl
/-- two rows of the call's own do not share a block -/
def Apart (v u : Value) : Prop := ∀ g, v.ownBlock = some g → u.ownBlock ≠ some g
theorem Apart.symm {v u : Value} (h : Apart v u) : Apart u v := fun g hg hv => h g hv hg
theorem Apart.kept {w w' : World} {base : Nat} {e : TypeId} {size n : Nat} {v u : Value} {xs : List Value} (h : w.ownsRow base e size u n xs) (ha : Apart v u) (hg : w.grownBy w' v.ownBlock) : w'.ownsRow base e size u n xs := by
  refine h.kept hg ?_
  cases hu : u.ownBlock with
  | none => exact .inl rfl
  | some g => exact .inr fun e => ha g e.symm hu
theorem Apart.step {w w1 : World} {base : Nat} {e : TypeId} {size n : Nat} {v v' u : Value} {xs : List Value} (h : w.ownsRow base e size u n xs) (hs : w.heap.size ≤ w1.heap.size) (ha : Apart v u) (hv : v'.ownBlock = v.ownBlock ∨ v'.ownBlock = some w1.heap.size) : Apart v' u := by
  intro g hg hu
  rcases hv with h1 | h1
  · exact ha g (h1 ▸ hg) hu
  · have := (h.lt g hu).2
    rw [h1] at hg
    injection hg with hg
    omega
/-- a block that is no row's stays when the row grows -/
theorem blk_apart {w w' w0 : World} {base g n : Nat} {e t : TypeId} {size : Nat} {v : Value} {xs : List Value} {cs : Array Value} (h : Blk w g t cs) (hg : w.grownBy w' v.ownBlock) (ho : w0.ownsRow base e size v n xs) (hw : w0.heap.size ≤ g) : Blk w' g t cs :=
  blk_of_grown h hg fun e => by have := (ho.lt _ e).2; omega
theorem blk_low {w w' w0 : World} {base g n : Nat} {e t : TypeId} {size : Nat} {v : Value} {xs : List Value} {cs : Array Value} (h : Blk w g t cs) (hg : w.grownBy w' v.ownBlock) (ho : w0.ownsRow base e size v n xs) (hw : g < base) : Blk w' g t cs :=
  blk_of_grown h hg fun e => by have := (ho.lt _ e).1; omega
def rowOf (f : Nat → Int) (k : Nat) : List Value := (List.range k).map fun j => .int .i64 (f j)
theorem rowOf_succ (f : Nat → Int) (k : Nat) : rowOf f k ++ [.int .i64 (f k)] = rowOf f (k + 1) := by simp [rowOf, List.range_succ]
theorem rowOf_at (f : Nat → Int) (k j : Nat) (h : j < k) : (rowOf f k)[j]? = some (.int .i64 (f j)) := by simp [rowOf, h]
theorem rd_rowOf {w : World} {base k c : Nat} {A : Option Addr} {f : Nat → Int} (h : w.ownsRow base 3 1 (.slice A k c) k (rowOf f k)) : Rd w w.heap.size A k (fun j => .int .i64 (f j)) := by
  have := Rd.of_own h (f := fun j => .int .i64 (f j)) (fun j hj => rowOf_at _ _ _ (by omega))
  rw [Nat.mul_one] at this
  exact this
theorem own_weaken {W : World} {base base' e size n : Nat} {v : Value} {xs : List Value} (h : W.ownsRow base e size v n xs) (hb : base' ≤ base) : W.ownsRow base' e size v n xs := by
  refine ⟨h.1, ?_⟩
  rcases h.2 with h2 | ⟨g, cap, cur, e1, h1, h2⟩
  · exact .inl h2
  · exact .inr ⟨g, cap, cur, e1, by omega, h2⟩
end Go.Proofs.YtonkjnkokikpgaaGreat
