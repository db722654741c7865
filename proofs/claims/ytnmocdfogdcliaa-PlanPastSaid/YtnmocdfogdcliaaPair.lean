/- Slices of structs of two integers: their cells. Plain lemmas; no condition. -/
import Derived.Test.YtnmocdfogdcliaaBase
import Derived.Maps.AppendAt
namespace Go.Proofs.Ytnmocdfogdcliaa
open Go.RowKit

/-- the cells of a slice of pairs -/
def ptc (X Y : Nat → Int) (j : Nat) : Value := if j % 2 = 0 then .int .i64 (X (j / 2)) else .int .i64 (Y (j / 2))
theorem ptc_x (X Y : Nat → Int) (j : Nat) : ptc X Y (j * 2) = .int .i64 (X j) := by
  unfold ptc; rw [if_pos (by omega)]; congr 1; congr 1; omega
theorem ptc_y (X Y : Nat → Int) (j : Nat) : ptc X Y (j * 2 + 1) = .int .i64 (Y j) := by
  unfold ptc; rw [if_neg (by omega)]; congr 1; congr 1; omega

/-- a slice of n pairs -/
def RdP (w : World) (B : Nat) (A : Option Addr) (n : Nat) (X Y : Nat → Int) : Prop := Rd w B A (n * 2) (ptc X Y)
theorem RdP.at_ {w : World} {B : Nat} {A : Option Addr} {n : Nat} {X Y : Nat → Int} (h : RdP w B A n X Y) {k : Nat} (hk : k < n) :
    ∃ b off, A = some ⟨b, off, none⟩ ∧ b < B ∧ w.cell? ⟨b, off + k * 2, none⟩ = some (.int .i64 (X k)) ∧ w.cell? ⟨b, off + k * 2 + 1, none⟩ = some (.int .i64 (Y k)) := by
  obtain ⟨b, off, e, hb, hc⟩ := h (by omega)
  refine ⟨b, off, e, hb, ?_, ?_⟩
  · rw [hc (k * 2) (by omega), ptc_x]
  · rw [Nat.add_assoc, hc (k * 2 + 1) (by omega), ptc_y]
theorem RdP.here {w : World} {B b off : Nat} {n : Nat} {X Y : Nat → Int} (h : RdP w B (some ⟨b, off, none⟩) n X Y) {k : Nat} (hk : k < n) :
    w.cell? ⟨b, off + k * 2, none⟩ = some (.int .i64 (X k)) ∧ w.cell? ⟨b, off + k * 2 + 1, none⟩ = some (.int .i64 (Y k)) := by
  obtain ⟨b', o', e, _, h1, h2⟩ := h.at_ hk
  cases e
  exact ⟨h1, h2⟩
theorem RdP.quiet {w w' : World} {B : Nat} {A : Option Addr} {n : Nat} {X Y : Nat → Int} (h : RdP w B A n X Y) (hq : ∃ k, w' = w.drewN k) : RdP w' B A n X Y := Rd.quiet h hq
theorem RdP.below {w w' : World} {B : Nat} {A : Option Addr} {n : Nat} {X Y : Nat → Int} (h : RdP w B A n X Y) (hb : Below B w w') : RdP w' B A n X Y := Rd.below h hb

/-- the cells of n pairs -/
def rowP (X Y : Nat → Int) (n : Nat) : List Value := (List.range (n * 2)).map (ptc X Y)
theorem rowP_succ (X Y : Nat → Int) (k : Nat) : rowP X Y k ++ [.int .i64 (X k), .int .i64 (Y k)] = rowP X Y (k + 1) := by
  unfold rowP
  rw [Nat.add_mul, Nat.one_mul, List.range_succ, List.range_succ]
  simp only [List.map_append, List.map_cons, List.map_nil, List.append_assoc, List.cons_append, List.nil_append]
  rw [ptc_x, ptc_y]
theorem rowP_at (X Y : Nat → Int) (n j : Nat) (h : j < n * 2) : (rowP X Y n)[j]? = some (ptc X Y j) := by simp [rowP, h]
theorem cell_two_new (w : World) (x y : Value) (t : TypeId) : ∀ j u, [x, y][j]? = some u → (w.alloc (.cells #[x, y] t)).cell? ((⟨w.heap.size, 0, none⟩ : Addr).add j) = some u := by
  intro j u hj
  match j, hj with
  | 0, hj => simp at hj; subst hj; simp [Addr.add]
  | 1, hj => simp at hj; subst hj; simp [Addr.add]
theorem cell_heap {w w' : World} {i : Nat} (h : w'.heap[i]? = w.heap[i]?) (o : Nat) : w'.cell? ⟨i, o, none⟩ = w.cell? ⟨i, o, none⟩ := by
  unfold World.cell?
  rw [h]
theorem own_form {w : World} {base : Nat} {e : TypeId} {size n : Nat} {v : Value} {xs : List Value} (h : w.ownsRow base e size v n xs) : ∃ A c, v = .slice A n c := by
  by_cases hn : 0 < n
  · obtain ⟨g, cap, hv, _⟩ := h.form hn
    exact ⟨_, _, hv⟩
  · have : n = 0 := by omega
    subst this
    rcases h.2 with ⟨rfl, _⟩ | ⟨g, cap, cur, rfl, _⟩
    · exact ⟨_, _, rfl⟩
    · exact ⟨_, _, rfl⟩
theorem own_below {w w' : World} {base : Nat} {e : TypeId} {size n : Nat} {v : Value} {xs : List Value} (h : w.ownsRow base e size v n xs) (hb : Below w.heap.size w w') : w'.ownsRow base e size v n xs :=
  h.kept (row := none) ⟨hb.os, hb.tape, hb.output, hb.size, fun k hk _ => hb.block k hk⟩ (by cases v.ownBlock <;> simp)
end Go.Proofs.Ytnmocdfogdcliaa
