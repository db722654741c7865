/- Plain mathematics: how many keys a map over residues has. No condition. -/
import Derived.Test.YtklngacahhlhmaaWalk3
import Derived.Maps.OwnIn
import Derived.Maps.OwnSet
import Derived.Maps.Views
namespace Go.Proofs.Ytklngacahhlhmaa
open Go.RowKit Go.Maps
open Pl (inv eQ Cg sumN prodN lagr)

def litX (X : Nat → Int) (k : Nat) : Lit := .int .i64 (X k % 1073741789)
def keysX (X : Nat → Int) (k : Nat) : List Lit := (List.range k).map (litX X)
def setX (X : Nat → Int) (k : Nat) : DataW Unit := setOf (.lit (.bool true)) (keysX X k)
theorem setX_zero (X : Nat → Int) : setX X 0 = .map [] := by simp [setX, keysX, setOf]
theorem setX_succ (X : Nat → Int) (k : Nat) : setX X (k + 1) = (setX X k).put (litX X k) (.lit (.bool true)) := by
  unfold setX keysX
  rw [List.range_succ, List.map_append, List.map_cons, List.map_nil, setOf_snoc]
theorem keysX_lit (X : Nat → Int) (k : Nat) : ∀ x ∈ keysX X k, WideAt.IsKeyLit x := by
  intro x hx
  obtain ⟨j, _, rfl⟩ := List.mem_map.1 hx
  simp [litX, WideAt.IsKeyLit]
theorem setX_size (X : Nat → Int) (k : Nat) : Maps.size (setX X (k + 1)) = if ∃ j, j < k ∧ X j % 1073741789 = X k % 1073741789 then Maps.size (setX X k) else Maps.size (setX X k) + 1 := by
  have ht : Maps.Tidy (setX X k) := tidy_setOf _ _ (keysX_lit X k)
  have e : Maps.has (setX X k) (litX X k) = (keysX X k).any fun x => x.sameKey (litX X k) := has_setOf _ _ _ (keysX_lit X k)
  rw [setX_succ, size_put ht, e]
  have : ((keysX X k).any fun x => x.sameKey (litX X k)) = true ↔ ∃ j, j < k ∧ X j % 1073741789 = X k % 1073741789 := by
    simp [keysX, litX, Lit.sameKey]
  by_cases h : ∃ j, j < k ∧ X j % 1073741789 = X k % 1073741789
  · rw [if_pos h, if_pos (this.2 h)]
  · rw [if_neg h, if_neg (fun h' => h (this.1 h'))]

theorem setX_len (X : Nat → Int) : ∀ k, Maps.size (setX X k) ≤ k ∧ (Maps.size (setX X k) < k ↔ distB X k = false)
  | 0 => by rw [setX_zero]; simp [Maps.size, distB]
  | k + 1 => by
    have ih := setX_len X k
    have hs : distB X (k + 1) = true ↔ distB X k = true ∧ ¬ ∃ j, j < k ∧ X j % 1073741789 = X k % 1073741789 := by
      simp only [distB_iff, Pl.Dist, ← Pl.cg_iff]
      constructor
      · intro h
        exact ⟨fun i j hi hj => h i j (by omega) hj, fun ⟨j, hj, e⟩ => h k j (by omega) hj e.symm⟩
      · rintro ⟨h1, h2⟩ i j hi hj
        by_cases e : i = k
        · subst e; exact fun e => h2 ⟨j, hj, e.symm⟩
        · exact h1 i j (by omega) hj
    rw [setX_size]
    rw [Bool.eq_false_iff, Ne, hs]
    rw [Bool.eq_false_iff, Ne] at ih
    by_cases h : ∃ j, j < k ∧ X j % 1073741789 = X k % 1073741789
    · rw [if_pos h]
      refine ⟨by omega, fun _ => fun h2 => h2.2 h, fun _ => by omega⟩
    · rw [if_neg h]
      refine ⟨by omega, fun h1 h2 => ih.2.1 (by omega) h2.1, fun h1 => ?_⟩
      have := ih.2.2 (fun h3 => h1 ⟨h3, h⟩)
      omega
end Go.Proofs.Ytklngacahhlhmaa
