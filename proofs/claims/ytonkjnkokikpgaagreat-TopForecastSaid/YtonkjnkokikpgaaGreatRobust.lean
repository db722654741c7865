/- Contract of the reference's Robust. -/
import Derived.Test.YtonkjnkokikpgaaGreatSame
import Derived.Deep.OwnRows
namespace Go.Proofs.YtonkjnkokikpgaaGreat
open Go.RowKit

theorem info48 : (Tryz.prog.info? 53).map (fun i => (i.zero, i.size, i.bytes)) = some (some (.agg #[.int .i64 0, .int .i64 0]), 2, 16) := by kernel_rfl
/-- a new row of ranges -/
theorem make_ranges (n : Nat) (hn : n ≤ 1000) (w : World) : (Instr.makeSlice 41 (.int .i64 (n : Int)) (.int .i64 (n : Int))).run Tryz.prog w = .ok (.slice (some ⟨w.heap.size, 0, none⟩) n n) (w.alloc (.cells (madeCells #[.int .i64 0, .int .i64 0] (n * 2)) 53)) := by
  obtain ⟨i, hi, hzz⟩ := Option.map_eq_some_iff.1 info48
  simp only [Prod.mk.injEq] at hzz
  obtain ⟨hz, hs, hb⟩ := hzz
  have hr := run_make (P := Tryz.prog) w 41 53 i _ Tryz.underlying41 hi hz .i64 .i64 n n (by omega) (Int.le_refl _) (by rw [hb]; omega) (by omega)
  simp only [Int.toNat_natCast, hs] at hr
  exact hr
theorem set_at {cs : Array Value} {k : Nat} (v : Value) (h : k < cs.size) : (cs.setIfInBounds k v)[k]? = some v := by
  rw [Array.getElem?_setIfInBounds, if_pos rfl, if_pos h]
theorem set_off {cs : Array Value} {k j : Nat} (v : Value) (h : k ≠ j) : (cs.setIfInBounds k v)[j]? = cs[j]? := by
  rw [Array.getElem?_setIfInBounds, if_neg h]
/-- from the k-th on, the row holds the robust stores -/
def RowR (cs : Array Value) (n k : Nat) (f : Nat → Int × Int) : Prop := cs.size = (n + 1) * 2 ∧ ∀ j, k ≤ j → j ≤ n → cs[j * 2]? = some (.int .i64 (f j).1) ∧ cs[j * 2 + 1]? = some (.int .i64 (f j).2)
theorem RowR.set_ {cs : Array Value} {n k : Nat} {f : Nat → Int × Int} (h : RowR cs n (k + 1) f) (hk : k ≤ n) : RowR ((cs.setIfInBounds (k * 2) (.int .i64 (f k).1)).setIfInBounds (k * 2 + 1) (.int .i64 (f k).2)) n k f := by
  obtain ⟨h1, h2⟩ := h
  refine ⟨by simp [h1], fun j hj hj2 => ?_⟩
  by_cases e : j = k
  · subst e
    exact ⟨by rw [set_off _ (by omega)]; exact set_at _ (by omega), set_at _ (by simp; omega)⟩
  · rw [set_off _ (by omega), set_off _ (by omega), set_off _ (by omega), set_off _ (by omega)]
    exact h2 j (by omega) hj2
theorem RowR.rd {W : World} {g n B : Nat} {cs : Array Value} {t : TypeId} {f : Nat → Int × Int} (h : Blk W g t cs) (hB : g < B) (hr : RowR cs n 0 f) : Rd W B (some ⟨g, 0, none⟩) ((n + 1) * 2) (rsc f) := fun _ =>
  ⟨_, _, rfl, hB, fun j hj => by
    rw [h.cell, Nat.zero_add]
    obtain ⟨a, b⟩ := hr.2 (j / 2) (by omega) (by omega)
    unfold rsc
    split
    · rename_i e; rw [← a]; congr 1; omega
    · rename_i e; rw [← b]; congr 1; omega⟩
theorem rb_ok {cp fl : Int} {n : Nat} {lo hi dm ou sp : Nat → Int} (hg : Good cp fl n lo hi dm ou sp) (t : Nat) (ht : t ≤ n) : ok2 cp (rb cp fl n lo hi dm ou sp t) := by
  by_cases e : t = n
  · subst e; rw [rb_end]; exact .inr ⟨hg.2.2.1.1, hg.2.2.1.2, Int.le_refl _⟩
  · rw [rb_step (by omega)]; exact bef_ok ((hg.2.2.2 t (by omega)).2.1.1)
end Go.Proofs.YtonkjnkokikpgaaGreat
