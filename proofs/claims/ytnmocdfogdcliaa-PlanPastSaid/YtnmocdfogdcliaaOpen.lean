/- The arguments of the laws, opened: a course. Plain lemmas. -/
import Derived.Test.YtnmocdfogdcliaaLaw
import Derived.Test.YtnmocdfogdcliaaFields
import Derived.Test.YtnmocdfogdcliaaModel
namespace Go.Proofs.Ytnmocdfogdcliaa
open Go.ChangeShapes Go.WideShapes Go.ChangeAt Go.RowKit Go.Deep

section
variable {H : Type} {enc : TypeId × Value → H} {W : World} {r : Reach} {b0 : Nat} {v : Value} {d : DataW H} {p : List MemPlace}

theorem num_at {fuel : Nat} {x : Value} {y : DataW H × List MemPlace} (h : DataW.trod enc Try.prog W 0 (fun _ => true) true fuel 3 [x] = some y) : ∃ a : Int, x = .int .i64 a := by
  obtain ⟨a, e, _, hw⟩ := DataW.trod_int Try.underlying3 h
  exact ⟨a, by simpa using e⟩
/-- the fields of a struct, each at its place -/
theorem fields_at {t : TypeId} {fs : Array Field} (hs : Try.prog.underlying t = some (.struct fs)) {fuel : Nat} {cs : List Value} {x : DataW H × List MemPlace} (h : DataW.trod enc Try.prog W 0 (fun _ => true) true fuel t cs = some x) :
    ∃ n : Nat, ∀ (i : Nat) (f : Field), fs[i]? = some f → ∃ y, DataW.trod enc Try.prog W 0 (fun _ => true) true n f.type ((cs.drop f.offset).take (Try.prog.cellsOf f.type)) = some y := by
  obtain ⟨ys, n, _, _, _, hlen, hg⟩ := DataW.trod_struct hs h
  refine ⟨n, fun i f hf => ?_⟩
  have hi : i < ys.length := by rw [hlen]; exact (Array.getElem?_eq_some_iff.1 hf).1
  have g := hg i f hf
  rw [List.getElem?_eq_getElem hi] at g
  exact ⟨_, g⟩
theorem k3 : Try.prog.cellsOf 3 = 1 := by kernel_rfl
theorem k48 : Try.prog.cellsOf 48 = 2 := by kernel_rfl
theorem k23 : Try.prog.cellsOf 23 = 2 := by kernel_rfl
theorem k24 : Try.prog.cellsOf 24 = 1 := by kernel_rfl
theorem k50 : Try.prog.cellsOf 50 = 5 := by kernel_rfl
theorem range_at {fuel : Nat} {c0 c1 : Value} {x : DataW H × List MemPlace} (h : DataW.trod enc Try.prog W 0 (fun _ => true) true fuel 48 [c0, c1] = some x) : ∃ a b : Int, c0 = .int .i64 a ∧ c1 = .int .i64 b := by
  obtain ⟨q, hg⟩ := fields_at Try.underlying48 h
  have g0 : ∃ y, DataW.trod enc Try.prog W 0 (fun _ => true) true q 3 (([c0, c1].drop 0).take (Try.prog.cellsOf 3)) = some y := hg 0 _ rfl
  have g1 : ∃ y, DataW.trod enc Try.prog W 0 (fun _ => true) true q 3 (([c0, c1].drop 1).take (Try.prog.cellsOf 3)) = some y := hg 1 _ rfl
  rw [k3] at g0 g1
  obtain ⟨y0, g0⟩ := g0
  obtain ⟨y1, g1⟩ := g1
  obtain ⟨a, rfl⟩ := num_at g0
  obtain ⟨b, rfl⟩ := num_at g1
  exact ⟨a, b, rfl, rfl⟩
theorem tank_at {fuel : Nat} {c0 c1 : Value} {x : DataW H × List MemPlace} (h : DataW.trod enc Try.prog W 0 (fun _ => true) true fuel 23 [c0, c1] = some x) : ∃ a b : Int, c0 = .int .i64 a ∧ c1 = .int .i64 b := by
  obtain ⟨q, hg⟩ := fields_at Try.underlying23 h
  have g0 : ∃ y, DataW.trod enc Try.prog W 0 (fun _ => true) true q 3 (([c0, c1].drop 0).take (Try.prog.cellsOf 3)) = some y := hg 0 _ rfl
  have g1 : ∃ y, DataW.trod enc Try.prog W 0 (fun _ => true) true q 3 (([c0, c1].drop 1).take (Try.prog.cellsOf 3)) = some y := hg 1 _ rfl
  rw [k3] at g0 g1
  obtain ⟨y0, g0⟩ := g0
  obtain ⟨y1, g1⟩ := g1
  obtain ⟨a, rfl⟩ := num_at g0
  obtain ⟨b, rfl⟩ := num_at g1
  exact ⟨a, b, rfl, rfl⟩
/-- one period's cells -/
structure PerC where
  lo : Int
  hi : Int
  dm : Int
  ou : Int
  sp : Int
instance : Inhabited PerC := ⟨⟨0, 0, 0, 0, 0⟩⟩
def PerC.cells (c : PerC) : List Value := [.int .i64 c.lo, .int .i64 c.hi, .int .i64 c.dm, .int .i64 c.ou, .int .i64 c.sp]
theorem period_at {fuel : Nat} {cs : List Value} (hl : cs.length = 5) {x : DataW H × List MemPlace} (h : DataW.trod enc Try.prog W 0 (fun _ => true) true fuel 50 cs = some x) : ∃ c : PerC, cs = c.cells := by
  obtain ⟨q, hg⟩ := fields_at Try.underlying50 h
  match cs, hl with
  | [c0, c1, c2, c3, c4], _ =>
    have g0 : ∃ y, DataW.trod enc Try.prog W 0 (fun _ => true) true q 48 (([c0, c1, c2, c3, c4].drop 0).take (Try.prog.cellsOf 48)) = some y := hg 0 _ rfl
    have g1 : ∃ y, DataW.trod enc Try.prog W 0 (fun _ => true) true q 3 (([c0, c1, c2, c3, c4].drop 2).take (Try.prog.cellsOf 3)) = some y := hg 1 _ rfl
    have g2 : ∃ y, DataW.trod enc Try.prog W 0 (fun _ => true) true q 3 (([c0, c1, c2, c3, c4].drop 3).take (Try.prog.cellsOf 3)) = some y := hg 2 _ rfl
    have g3 : ∃ y, DataW.trod enc Try.prog W 0 (fun _ => true) true q 3 (([c0, c1, c2, c3, c4].drop 4).take (Try.prog.cellsOf 3)) = some y := hg 3 _ rfl
    rw [k48] at g0
    rw [k3] at g1 g2 g3
    obtain ⟨y0, g0⟩ := g0
    obtain ⟨y1, g1⟩ := g1
    obtain ⟨y2, g2⟩ := g2
    obtain ⟨y3, g3⟩ := g3
    obtain ⟨a, b, rfl, rfl⟩ := range_at g0
    obtain ⟨d, rfl⟩ := num_at g1
    obtain ⟨o, rfl⟩ := num_at g2
    obtain ⟨s, rfl⟩ := num_at g3
    exact ⟨⟨a, b, d, o, s⟩, rfl⟩
/-- the periods in memory -/
theorem periods_at {fuel : Nat} {v : Value} {x : DataW H × List MemPlace} (hf : DataW.trod enc Try.prog W 0 (fun _ => true) true fuel 24 [v] = some x) :
    ∃ (A : Option Addr) (n pc : Nat) (c : Nat → PerC), v = .slice A n pc ∧ n ≤ pc ∧ pc ≤ 9223372036854775807 ∧ Rd W W.heap.size A (n * 5) (psc (fun j => (c j).lo) (fun j => (c j).hi) (fun j => (c j).dm) (fun j => (c j).ou) (fun j => (c j).sp)) := by
  rcases open_slice Try.underlying24 hf with ⟨hcs, _⟩ | ⟨a, len, cap, m, q, D, Pl, hcs, _, hl, hm, hmm, _, hc⟩
  · obtain rfl : v = .slice none 0 0 := by simpa using hcs
    exact ⟨none, 0, 0, fun _ => default, rfl, by omega, by omega, Rd.nil⟩
  · obtain rfl : v = .slice (some a) len cap := by simpa using hcs
    rw [if_pos rfl] at hmm
    unfold maxLen at hm
    rw [k50] at hc
    have each : ∀ i, i < m → ∃ c : PerC, ∀ k, k < 5 → W.cell? ((a.add (i * 5)).add k) = c.cells[k]? := fun i hi => by
      obtain ⟨cs, h1, h2⟩ := hc i hi
      have h3 := World.cells?_some h1
      obtain ⟨c, rfl⟩ := period_at h3.2.1 h2
      exact ⟨c, fun k hk => h3.2.2 k hk⟩
    obtain ⟨c, hc'⟩ := choose_lt each
    refine ⟨_, _, _, c, rfl, hl, hm, fun hn => ?_⟩
    have h0 := hc' 0 (by omega) 0 (by omega)
    have hb : a.block < W.heap.size := by have := World.block_lt_of_cell? W _ (h0.trans (show _ = some _ from rfl)); rwa [add_block, add_block] at this
    refine Rd.of_add (m := len * 5) hb (fun j hj => ?_) hn
    obtain ⟨i, k, hk, rfl⟩ : ∃ i k, k < 5 ∧ j = i * 5 + k := ⟨j / 5, j % 5, by omega, by omega⟩
    have h1 := hc' i (by omega) k hk
    rw [Deep.add_add] at h1
    rw [h1]
    match k, hk with
    | 0, _ => rw [Nat.add_zero, psc_0]; rfl
    | 1, _ => rw [psc_1]; rfl
    | 2, _ => rw [psc_2]; rfl
    | 3, _ => rw [psc_3]; rfl
    | 4, _ => rw [psc_4]; rfl
/-- an argument of type api.Course -/
theorem open_course (hv : Value.okWide Try.prog W r b0 26 v) (h : DataW.Trod enc Try.prog W 0 (fun _ => true) true 26 v d p) :
    ∃ (cp st fl : Int) (PA : Option Addr) (n pc : Nat) (lo hi dm ou sp : Nat → Int), v = .agg #[.int .i64 cp, .int .i64 st, .int .i64 fl, .slice PA n pc] ∧ n ≤ pc ∧ pc ≤ 9223372036854775807 ∧ Rd W W.heap.size PA (n * 5) (psc lo hi dm ou sp) := by
  obtain ⟨cs, rfl, hsz⟩ := okWide_struct Try.underlying26 hv
  obtain ⟨l⟩ := cs
  obtain ⟨fuel, hf⟩ := h
  have hl : l.length = 4 := by simpa using hsz.trans (by kernel_rfl : Try.prog.cellsOf 26 = 4)
  have hf : DataW.trod enc Try.prog W 0 (fun _ => true) true fuel 26 l = some (d, p) := by simpa [Value.cells] using hf
  obtain ⟨q, hg⟩ := fields_at Try.underlying26 hf
  match l, hl with
  | [c0, c1, c2, c3], _ =>
    have g0 : ∃ y, DataW.trod enc Try.prog W 0 (fun _ => true) true q 23 (([c0, c1, c2, c3].drop 0).take (Try.prog.cellsOf 23)) = some y := hg 0 _ rfl
    have g1 : ∃ y, DataW.trod enc Try.prog W 0 (fun _ => true) true q 3 (([c0, c1, c2, c3].drop 2).take (Try.prog.cellsOf 3)) = some y := hg 1 _ rfl
    have g2 : ∃ y, DataW.trod enc Try.prog W 0 (fun _ => true) true q 24 (([c0, c1, c2, c3].drop 3).take (Try.prog.cellsOf 24)) = some y := hg 2 _ rfl
    rw [k23] at g0
    rw [k3] at g1
    rw [k24] at g2
    obtain ⟨y0, g0⟩ := g0
    obtain ⟨y1, g1⟩ := g1
    obtain ⟨y2, g2⟩ := g2
    obtain ⟨cp, st, rfl, rfl⟩ := tank_at g0
    obtain ⟨fl, rfl⟩ := num_at g1
    obtain ⟨A, n, pc, c, rfl, h1, h2, h3⟩ := periods_at g2
    exact ⟨cp, st, fl, A, n, pc, _, _, _, _, _, rfl, h1, h2, h3⟩
end
end Go.Proofs.Ytnmocdfogdcliaa
