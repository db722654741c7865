/- The arguments of the law, opened. Plain lemmas. -/
import Derived.Test.YtonkjnkokikpgaaGreatLaw
import Derived.Test.YtonkjnkokikpgaaGreatFields
import Derived.Test.YtonkjnkokikpgaaGreatTopC
namespace Go.Proofs.YtonkjnkokikpgaaGreat
open Go.ChangeShapes Go.WideShapes Go.ChangeAt Go.RowKit Go.Deep

section
variable {H : Type} {enc : TypeId × Value → H} {W : World} {r : Reach} {b0 : Nat} {v : Value} {d : DataW H} {p : List MemPlace}

set_option maxRecDepth 100000 in
theorem num_at {fuel : Nat} {x : Value} {y : DataW H × List MemPlace} (h : DataW.trod enc Tryz.prog W 0 (fun _ => true) true fuel 3 [x] = some y) : ∃ a : Int, x = .int .i64 a := by
  obtain ⟨a, e, _, hw⟩ := DataW.trod_int Tryz.underlying3 h
  exact ⟨a, by simpa using e⟩
set_option maxRecDepth 100000 in
/-- the fields of a struct, each at its place -/
theorem fields_at {t : TypeId} {fs : Array Field} (hs : Tryz.prog.underlying t = some (.struct fs)) {fuel : Nat} {cs : List Value} {x : DataW H × List MemPlace} (h : DataW.trod enc Tryz.prog W 0 (fun _ => true) true fuel t cs = some x) :
    ∃ n : Nat, ∀ (i : Nat) (f : Field), fs[i]? = some f → ∃ y, DataW.trod enc Tryz.prog W 0 (fun _ => true) true n f.type ((cs.drop f.offset).take (Tryz.prog.cellsOf f.type)) = some y := by
  obtain ⟨ys, n, _, _, _, hlen, hg⟩ := DataW.trod_struct hs h
  refine ⟨n, fun i f hf => ?_⟩
  have hi : i < ys.length := by rw [hlen]; exact (Array.getElem?_eq_some_iff.1 hf).1
  have g := hg i f hf
  rw [List.getElem?_eq_getElem hi] at g
  exact ⟨_, g⟩
set_option maxRecDepth 100000 in
theorem k3 : Tryz.prog.cellsOf 3 = 1 := by kernel_rfl
set_option maxRecDepth 100000 in
theorem k53 : Tryz.prog.cellsOf 53 = 2 := by kernel_rfl
set_option maxRecDepth 100000 in
theorem k27 : Tryz.prog.cellsOf 27 = 2 := by kernel_rfl
set_option maxRecDepth 100000 in
theorem k28 : Tryz.prog.cellsOf 28 = 1 := by kernel_rfl
set_option maxRecDepth 100000 in
theorem k55 : Tryz.prog.cellsOf 55 = 5 := by kernel_rfl
set_option maxRecDepth 100000 in
theorem range_at {fuel : Nat} {c0 c1 : Value} {x : DataW H × List MemPlace} (h : DataW.trod enc Tryz.prog W 0 (fun _ => true) true fuel 53 [c0, c1] = some x) : ∃ a b : Int, c0 = .int .i64 a ∧ c1 = .int .i64 b := by
  obtain ⟨q, hg⟩ := fields_at Tryz.underlying53 h
  have g0 : ∃ y, DataW.trod enc Tryz.prog W 0 (fun _ => true) true q 3 (([c0, c1].drop 0).take (Tryz.prog.cellsOf 3)) = some y := hg 0 _ rfl
  have g1 : ∃ y, DataW.trod enc Tryz.prog W 0 (fun _ => true) true q 3 (([c0, c1].drop 1).take (Tryz.prog.cellsOf 3)) = some y := hg 1 _ rfl
  rw [k3] at g0 g1
  obtain ⟨y0, g0⟩ := g0
  obtain ⟨y1, g1⟩ := g1
  obtain ⟨a, rfl⟩ := num_at g0
  obtain ⟨b, rfl⟩ := num_at g1
  exact ⟨a, b, rfl, rfl⟩
set_option maxRecDepth 100000 in
theorem tank_at {fuel : Nat} {c0 c1 : Value} {x : DataW H × List MemPlace} (h : DataW.trod enc Tryz.prog W 0 (fun _ => true) true fuel 27 [c0, c1] = some x) : ∃ a b : Int, c0 = .int .i64 a ∧ c1 = .int .i64 b := by
  obtain ⟨q, hg⟩ := fields_at Tryz.underlying27 h
  have g0 : ∃ y, DataW.trod enc Tryz.prog W 0 (fun _ => true) true q 3 (([c0, c1].drop 0).take (Tryz.prog.cellsOf 3)) = some y := hg 0 _ rfl
  have g1 : ∃ y, DataW.trod enc Tryz.prog W 0 (fun _ => true) true q 3 (([c0, c1].drop 1).take (Tryz.prog.cellsOf 3)) = some y := hg 1 _ rfl
  rw [k3] at g0 g1
  obtain ⟨y0, g0⟩ := g0
  obtain ⟨y1, g1⟩ := g1
  obtain ⟨a, rfl⟩ := num_at g0
  obtain ⟨b, rfl⟩ := num_at g1
  exact ⟨a, b, rfl, rfl⟩
/-- one period's cells -/
structure PerC where
  lo : Int
  hi : Int
  dm : Int
  ou : Int
  sp : Int
instance : Inhabited PerC := ⟨⟨0, 0, 0, 0, 0⟩⟩
def PerC.cells (c : PerC) : List Value := [.int .i64 c.lo, .int .i64 c.hi, .int .i64 c.dm, .int .i64 c.ou, .int .i64 c.sp]
set_option maxRecDepth 100000 in
theorem period_at {fuel : Nat} {cs : List Value} (hl : cs.length = 5) {x : DataW H × List MemPlace} (h : DataW.trod enc Tryz.prog W 0 (fun _ => true) true fuel 55 cs = some x) : ∃ c : PerC, cs = c.cells := by
  obtain ⟨q, hg⟩ := fields_at Tryz.underlying55 h
  match cs, hl with
  | [c0, c1, c2, c3, c4], _ =>
    have g0 : ∃ y, DataW.trod enc Tryz.prog W 0 (fun _ => true) true q 53 (([c0, c1, c2, c3, c4].drop 0).take (Tryz.prog.cellsOf 53)) = some y := hg 0 _ rfl
    have g1 : ∃ y, DataW.trod enc Tryz.prog W 0 (fun _ => true) true q 3 (([c0, c1, c2, c3, c4].drop 2).take (Tryz.prog.cellsOf 3)) = some y := hg 1 _ rfl
    have g2 : ∃ y, DataW.trod enc Tryz.prog W 0 (fun _ => true) true q 3 (([c0, c1, c2, c3, c4].drop 3).take (Tryz.prog.cellsOf 3)) = some y := hg 2 _ rfl
    have g3 : ∃ y, DataW.trod enc Tryz.prog W 0 (fun _ => true) true q 3 (([c0, c1, c2, c3, c4].drop 4).take (Tryz.prog.cellsOf 3)) = some y := hg 3 _ rfl
    rw [k53] at g0
    rw [k3] at g1 g2 g3
    obtain ⟨y0, g0⟩ := g0
    obtain ⟨y1, g1⟩ := g1
    obtain ⟨y2, g2⟩ := g2
    obtain ⟨y3, g3⟩ := g3
    obtain ⟨a, b, rfl, rfl⟩ := range_at g0
    obtain ⟨d, rfl⟩ := num_at g1
    obtain ⟨o, rfl⟩ := num_at g2
    obtain ⟨s, rfl⟩ := num_at g3
    exact ⟨⟨a, b, d, o, s⟩, rfl⟩
set_option maxRecDepth 100000 in
/-- the periods in memory -/
theorem periods_at {fuel : Nat} {v : Value} {x : DataW H × List MemPlace} (hf : DataW.trod enc Tryz.prog W 0 (fun _ => true) true fuel 28 [v] = some x) :
    ∃ (A : Option Addr) (n pc : Nat) (c : Nat → PerC), v = .slice A n pc ∧ n ≤ pc ∧ pc ≤ 9223372036854775807 ∧ Rd W W.heap.size A (n * 5) (psc (fun j => (c j).lo) (fun j => (c j).hi) (fun j => (c j).dm) (fun j => (c j).ou) (fun j => (c j).sp)) := by
  rcases open_slice Tryz.underlying28 hf with ⟨hcs, _⟩ | ⟨a, len, cap, m, q, D, Pl, hcs, _, hl, hm, hmm, _, hc⟩
  · obtain rfl : v = .slice none 0 0 := by simpa using hcs
    exact ⟨none, 0, 0, fun _ => default, rfl, by omega, by omega, Rd.nil⟩
  · obtain rfl : v = .slice (some a) len cap := by simpa using hcs
    rw [if_pos rfl] at hmm
    unfold maxLen at hm
    rw [k55] at hc
    have each : ∀ i, i < m → ∃ c : PerC, ∀ k, k < 5 → W.cell? ((a.add (i * 5)).add k) = c.cells[k]? := fun i hi => by
      obtain ⟨cs, h1, h2⟩ := hc i hi
      have h3 := World.cells?_some h1
      obtain ⟨c, rfl⟩ := period_at h3.2.1 h2
      exact ⟨c, fun k hk => h3.2.2 k hk⟩
    obtain ⟨c, hc'⟩ := choose_lt each
    refine ⟨_, _, _, c, rfl, hl, hm, fun hn => ?_⟩
    have h0 := hc' 0 (by omega) 0 (by omega)
    have hb : a.block < W.heap.size := by have := World.block_lt_of_cell? W _ (h0.trans (show _ = some _ from rfl)); rwa [add_block, add_block] at this
    refine Rd.of_add (m := len * 5) hb (fun j hj => ?_) hn
    obtain ⟨i, k, hk, rfl⟩ : ∃ i k, k < 5 ∧ j = i * 5 + k := ⟨j / 5, j % 5, by omega, by omega⟩
    have h1 := hc' i (by omega) k hk
    rw [Deep.add_add] at h1
    rw [h1]
    match k, hk with
    | 0, _ => rw [Nat.add_zero, psc_0]; rfl
    | 1, _ => rw [psc_1]; rfl
    | 2, _ => rw [psc_2]; rfl
    | 3, _ => rw [psc_3]; rfl
    | 4, _ => rw [psc_4]; rfl
set_option maxRecDepth 100000 in
/-- an argument of type api.Course -/
theorem open_course (hv : Value.okWide Tryz.prog W r b0 30 v) (h : DataW.Trod enc Tryz.prog W 0 (fun _ => true) true 30 v d p) :
    ∃ (cp st fl : Int) (PA : Option Addr) (n pc : Nat) (lo hi dm ou sp : Nat → Int), v = .agg #[.int .i64 cp, .int .i64 st, .int .i64 fl, .slice PA n pc] ∧ n ≤ pc ∧ pc ≤ 9223372036854775807 ∧ Rd W W.heap.size PA (n * 5) (psc lo hi dm ou sp) := by
  obtain ⟨cs, rfl, hsz⟩ := okWide_struct Tryz.underlying30 hv
  obtain ⟨l⟩ := cs
  obtain ⟨fuel, hf⟩ := h
  have hl : l.length = 4 := by simpa using hsz.trans (by kernel_rfl : Tryz.prog.cellsOf 30 = 4)
  have hf : DataW.trod enc Tryz.prog W 0 (fun _ => true) true fuel 30 l = some (d, p) := by simpa [Value.cells] using hf
  obtain ⟨q, hg⟩ := fields_at Tryz.underlying30 hf
  match l, hl with
  | [c0, c1, c2, c3], _ =>
    have g0 : ∃ y, DataW.trod enc Tryz.prog W 0 (fun _ => true) true q 27 (([c0, c1, c2, c3].drop 0).take (Tryz.prog.cellsOf 27)) = some y := hg 0 _ rfl
    have g1 : ∃ y, DataW.trod enc Tryz.prog W 0 (fun _ => true) true q 3 (([c0, c1, c2, c3].drop 2).take (Tryz.prog.cellsOf 3)) = some y := hg 1 _ rfl
    have g2 : ∃ y, DataW.trod enc Tryz.prog W 0 (fun _ => true) true q 28 (([c0, c1, c2, c3].drop 3).take (Tryz.prog.cellsOf 28)) = some y := hg 2 _ rfl
    rw [k27] at g0
    rw [k3] at g1
    rw [k28] at g2
    obtain ⟨y0, g0⟩ := g0
    obtain ⟨y1, g1⟩ := g1
    obtain ⟨y2, g2⟩ := g2
    obtain ⟨cp, st, rfl, rfl⟩ := tank_at g0
    obtain ⟨fl, rfl⟩ := num_at g1
    obtain ⟨A, n, pc, c, rfl, h1, h2, h3⟩ := periods_at g2
    exact ⟨cp, st, fl, A, n, pc, _, _, _, _, _, rfl, h1, h2, h3⟩
set_option maxRecDepth 100000 in
/-- a slice of integers in memory, out of its reading -/
theorem ints_at {fuel : Nat} {v : Value} {x : DataW H × List MemPlace} (hf : DataW.trod enc Tryz.prog W 0 (fun _ => true) true fuel 36 [v] = some x) :
    ∃ (A : Option Addr) (n c : Nat) (f : Nat → Int), v = .slice A n c ∧ n ≤ c ∧ c ≤ 9223372036854775807 ∧ Rd W W.heap.size A n (fun j => .int .i64 (f j)) := by
  rcases open_ints Tryz.underlying36 Tryz.underlying3 (by kernel_rfl) hf with ⟨hcs, _⟩ | ⟨a, len, cap, zs, hcs, _, hl, hm, hz, _, hc, hw⟩
  · obtain rfl : v = .slice none 0 0 := by simpa using hcs
    exact ⟨none, 0, 0, fun _ => 0, rfl, by omega, by omega, Rd.nil⟩
  · obtain rfl : v = .slice (some a) len cap := by simpa using hcs
    rw [if_pos rfl] at hz
    unfold maxLen at hm
    refine ⟨_, _, _, fun j => zs.getD j 0, rfl, hl, hm, fun hn => ?_⟩
    have h0 := hc 0 (by omega)
    have hb : a.block < W.heap.size := World.block_lt_of_cell? W (a.add 0) h0
    exact Rd.of_add (m := len) hb (fun j hj => hc j (by omega)) hn
set_option maxRecDepth 100000 in
/-- an argument of type []u32 -/
theorem open_u32s (hv : Value.okWide Tryz.prog W r b0 31 v) (h : DataW.Trod enc Tryz.prog W 0 (fun _ => true) true 31 v d p) :
    ∃ (A : Option Addr) (n c : Nat) (f : Nat → Nat), v = .slice A n c ∧ n ≤ c ∧ c ≤ 9223372036854775807 ∧ (∀ j, f j ≤ 4294967295) ∧ Rd W W.heap.size A n (fun j => .int .u32 (f j)) := by
  obtain ⟨A, n, c, rfl⟩ := okWide_slice Tryz.underlying31 hv
  obtain ⟨fuel, hf⟩ := h
  rcases open_ints Tryz.underlying31 Tryz.underlying37 (by kernel_rfl) hf with ⟨hcs, _⟩ | ⟨a, len, cap, zs, hcs, _, hl, hm, hz, _, hc, hw⟩
  · obtain ⟨rfl, rfl, rfl⟩ : A = none ∧ n = 0 ∧ c = 0 := by simpa [Value.cells] using hcs
    exact ⟨none, 0, 0, fun _ => 0, rfl, by omega, by omega, fun _ => Nat.zero_le _, Rd.nil⟩
  · obtain ⟨rfl, rfl, rfl⟩ : A = some a ∧ n = len ∧ c = cap := by simpa [Value.cells] using hcs
    rw [if_pos rfl] at hz
    unfold maxLen at hm
    have hin : ∀ j, 0 ≤ zs.getD j 0 ∧ zs.getD j 0 ≤ 4294967295 := fun j => by
      by_cases hj : j < zs.length
      · have := bounds_u32 (hw zs[j] (List.getElem_mem hj))
        simpa [List.getD, hj] using this
      · simp only [List.getD, List.getElem?_eq_none (by omega : zs.length ≤ j), Option.getD_none]
        omega
    refine ⟨_, _, _, fun j => (zs.getD j 0).toNat, rfl, hl, hm, fun j => by have := hin j; show (zs.getD j 0).toNat ≤ 4294967295; omega, fun hn => ?_⟩
    have h0 := hc 0 (by omega)
    have hb : a.block < W.heap.size := World.block_lt_of_cell? W (a.add 0) h0
    refine Rd.of_add (m := n) hb (fun j hj => ?_) hn
    rw [hc j (by omega), Int.toNat_of_nonneg (hin j).1]
set_option maxRecDepth 100000 in
/-- an argument of type []u16 -/
theorem open_u16s (hv : Value.okWide Tryz.prog W r b0 32 v) (h : DataW.Trod enc Tryz.prog W 0 (fun _ => true) true 32 v d p) :
    ∃ (A : Option Addr) (n c : Nat) (f : Nat → Nat), v = .slice A n c ∧ n ≤ c ∧ c ≤ 9223372036854775807 ∧ (∀ j, f j ≤ 65535) ∧ Rd W W.heap.size A n (fun j => .int .u16 (f j)) := by
  obtain ⟨A, n, c, rfl⟩ := okWide_slice Tryz.underlying32 hv
  obtain ⟨fuel, hf⟩ := h
  rcases open_ints Tryz.underlying32 Tryz.underlying84 (by kernel_rfl) hf with ⟨hcs, _⟩ | ⟨a, len, cap, zs, hcs, _, hl, hm, hz, _, hc, hw⟩
  · obtain ⟨rfl, rfl, rfl⟩ : A = none ∧ n = 0 ∧ c = 0 := by simpa [Value.cells] using hcs
    exact ⟨none, 0, 0, fun _ => 0, rfl, by omega, by omega, fun _ => Nat.zero_le _, Rd.nil⟩
  · obtain ⟨rfl, rfl, rfl⟩ : A = some a ∧ n = len ∧ c = cap := by simpa [Value.cells] using hcs
    rw [if_pos rfl] at hz
    unfold maxLen at hm
    have hin : ∀ j, 0 ≤ zs.getD j 0 ∧ zs.getD j 0 ≤ 65535 := fun j => by
      by_cases hj : j < zs.length
      · have := bounds_u16 (hw zs[j] (List.getElem_mem hj))
        simpa [List.getD, hj] using this
      · simp only [List.getD, List.getElem?_eq_none (by omega : zs.length ≤ j), Option.getD_none]
        omega
    refine ⟨_, _, _, fun j => (zs.getD j 0).toNat, rfl, hl, hm, fun j => by have := hin j; show (zs.getD j 0).toNat ≤ 65535; omega, fun hn => ?_⟩
    have h0 := hc 0 (by omega)
    have hb : a.block < W.heap.size := World.block_lt_of_cell? W (a.add 0) h0
    refine Rd.of_add (m := n) hb (fun j hj => ?_) hn
    rw [hc j (by omega), Int.toNat_of_nonneg (hin j).1]
set_option maxRecDepth 100000 in
/-- some ranges in memory -/
theorem ranges_at {fuel : Nat} {v : Value} {x : DataW H × List MemPlace} (hf : DataW.trod enc Tryz.prog W 0 (fun _ => true) true fuel 41 [v] = some x) :
    ∃ (A : Option Addr) (n c : Nat) (f : Nat → Int × Int), v = .slice A n c ∧ n ≤ c ∧ c ≤ 9223372036854775807 ∧ Rd W W.heap.size A (n * 2) (rsc f) := by
  rcases open_slice Tryz.underlying41 hf with ⟨hcs, _⟩ | ⟨a, len, cap, m, q, D, Pl, hcs, _, hl, hm, hmm, _, hc⟩
  · obtain rfl : v = .slice none 0 0 := by simpa using hcs
    exact ⟨none, 0, 0, fun _ => (0, 0), rfl, by omega, by omega, Rd.nil⟩
  · obtain rfl : v = .slice (some a) len cap := by simpa using hcs
    rw [if_pos rfl] at hmm
    unfold maxLen at hm
    rw [k53] at hc
    have each : ∀ i, i < m → ∃ c : Int × Int, ∀ k, k < 2 → W.cell? ((a.add (i * 2)).add k) = [Value.int .i64 c.1, .int .i64 c.2][k]? := fun i hi => by
      obtain ⟨cs, h1, h2⟩ := hc i hi
      have h3 := World.cells?_some h1
      match cs, h3.2.1 with
      | [c0, c1], _ =>
        obtain ⟨x, y, rfl, rfl⟩ := range_at h2
        exact ⟨(x, y), fun k hk => h3.2.2 k hk⟩
    obtain ⟨c, hc'⟩ := choose_lt each
    refine ⟨_, _, _, c, rfl, hl, hm, fun hn => ?_⟩
    have h0 := hc' 0 (by omega) 0 (by omega)
    have hb : a.block < W.heap.size := by have := World.block_lt_of_cell? W _ (h0.trans (show _ = some _ from rfl)); rwa [add_block, add_block] at this
    refine Rd.of_add (m := len * 2) hb (fun j hj => ?_) hn
    obtain ⟨i, k, hk, rfl⟩ : ∃ i k, k < 2 ∧ j = i * 2 + k := ⟨j / 2, j % 2, by omega, by omega⟩
    have h1 := hc' i (by omega) k hk
    rw [Deep.add_add] at h1
    rw [h1]
    match k, hk with
    | 0, _ => rw [Nat.add_zero, rsc_0]; rfl
    | 1, _ => rw [rsc_1]; rfl
/-- one forecast's cells -/
structure PastC where
  bd : Int
  RA : Option Addr
  rn : Nat
  rc : Nat
  RF : Nat → Int × Int
  SA : Option Addr
  sn : Nat
  sc : Nat
  SV : Nat → Int
instance : Inhabited PastC := ⟨⟨0, none, 0, 0, fun _ => (0, 0), none, 0, 0, fun _ => 0⟩⟩
def PastC.cells (c : PastC) : List Value := [.int .i64 c.bd, .slice c.RA c.rn c.rc, .slice c.SA c.sn c.sc]
set_option maxRecDepth 100000 in
theorem past_at {fuel : Nat} {cs : List Value} (hl : cs.length = 3) {x : DataW H × List MemPlace} (h : DataW.trod enc Tryz.prog W 0 (fun _ => true) true fuel 49 cs = some x) :
    ∃ c : PastC, cs = c.cells ∧ (c.rn ≤ 9223372036854775807 ∧ c.sn ≤ 9223372036854775807) ∧ Rd W W.heap.size c.RA (c.rn * 2) (rsc c.RF) ∧ Rd W W.heap.size c.SA c.sn (fun j => .int .i64 (c.SV j)) := by
  obtain ⟨q, hg⟩ := cells_fields Tryz.underlying49 (by kernel_rfl) hl h
  match cs, hl with
  | [c0, c1, c2], _ =>
    obtain ⟨y0, g0⟩ := hg 0 _ _ rfl rfl
    obtain ⟨y1, g1⟩ := hg 1 _ _ rfl rfl
    obtain ⟨y2, g2⟩ := hg 2 _ _ rfl rfl
    obtain ⟨bd, rfl⟩ := num_at g0
    obtain ⟨RA, rn, rc, RF, rfl, hl1, hm1, hR⟩ := ranges_at g1
    obtain ⟨SA, sn, sc, SV, rfl, hl2, hm2, hS⟩ := ints_at g2
    exact ⟨⟨bd, RA, rn, rc, RF, SA, sn, sc, SV⟩, rfl, ⟨Nat.le_trans hl1 hm1, Nat.le_trans hl2 hm2⟩, hR, hS⟩
set_option maxRecDepth 100000 in
/-- an argument of type []api.Past -/
theorem open_pasts (hv : Value.okWide Tryz.prog W r b0 23 v) (h : DataW.Trod enc Tryz.prog W 0 (fun _ => true) true 23 v d p) :
    ∃ (A : Option Addr) (n c : Nat) (f : PastF), v = .slice A n c ∧ n ≤ c ∧ c ≤ 9223372036854775807 ∧ PastRd W W.heap.size A n f := by
  obtain ⟨A, n, c0, rfl⟩ := okWide_slice Tryz.underlying23 hv
  obtain ⟨fuel, hf⟩ := h
  rcases open_slice Tryz.underlying23 hf with ⟨hcs, _⟩ | ⟨a, len, cap, m, q, D, Pl, hcs, _, hl, hm, hmm, _, hc⟩
  · obtain ⟨rfl, rfl, rfl⟩ : A = none ∧ n = 0 ∧ c0 = 0 := by simpa [Value.cells] using hcs
    exact ⟨none, 0, 0, ⟨fun _ => 0, fun _ => none, fun _ => 0, fun _ => 0, fun _ => none, fun _ => 0, fun _ => 0, fun _ _ => (0, 0), fun _ _ => 0⟩, rfl, by omega, by omega, Rd.nil, fun j hj => by omega⟩
  · obtain ⟨rfl, rfl, rfl⟩ : A = some a ∧ n = len ∧ c0 = cap := by simpa [Value.cells] using hcs
    rw [if_pos rfl] at hmm
    unfold maxLen at hm
    have h5 : Tryz.prog.cellsOf 49 = 3 := by kernel_rfl
    rw [h5] at hc
    have each : ∀ i, i < m → ∃ c : PastC, (∀ k, k < 3 → W.cell? ((a.add (i * 3)).add k) = c.cells[k]?) ∧ (c.rn ≤ 9223372036854775807 ∧ c.sn ≤ 9223372036854775807) ∧ Rd W W.heap.size c.RA (c.rn * 2) (rsc c.RF) ∧ Rd W W.heap.size c.SA c.sn (fun j => .int .i64 (c.SV j)) := fun i hi => by
      obtain ⟨cs, h1, h2⟩ := hc i hi
      have h3 := World.cells?_some h1
      obtain ⟨c, rfl, hz, hF, hR⟩ := past_at h3.2.1 h2
      exact ⟨c, fun k hk => h3.2.2 k hk, hz, hF, hR⟩
    obtain ⟨c, hc'⟩ := choose_lt each
    refine ⟨_, _, _, ⟨fun j => (c j).bd, fun j => (c j).RA, fun j => (c j).rn, fun j => (c j).rc, fun j => (c j).SA, fun j => (c j).sn, fun j => (c j).sc, fun j => (c j).RF, fun j => (c j).SV⟩, rfl, hl, hm, fun hn => ?_, fun j hj => ?_⟩
    · have h0 := (hc' 0 (by omega)).1 0 (by omega)
      have hb : a.block < W.heap.size := by have := World.block_lt_of_cell? W _ (h0.trans (show _ = some _ from rfl)); rwa [add_block, add_block] at this
      refine Rd.of_add (m := n * 3) hb (fun j hj => ?_) hn
      obtain ⟨i, k, hk, rfl⟩ : ∃ i k, k < 3 ∧ j = i * 3 + k := ⟨j / 3, j % 3, by omega, by omega⟩
      have h1 := (hc' i (by omega)).1 k hk
      rw [Deep.add_add] at h1
      rw [h1]
      unfold PastF.cells
      match k, hk with
      | 0, _ => rw [Nat.add_zero, pcc_0]; rfl
      | 1, _ => rw [pcc_1]; rfl
      | 2, _ => rw [pcc_2]; rfl
    · obtain ⟨_, hz, hR, hS⟩ := hc' j (by omega)
      exact ⟨⟨hR, hz.1⟩, hS, hz.2⟩
set_option maxRecDepth 100000 in
/-- the members of an ensemble in memory -/
theorem members_at {fuel : Nat} {v : Value} {x : DataW H × List MemPlace} (hf : DataW.trod enc Tryz.prog W 0 (fun _ => true) true fuel 38 [v] = some x) :
    ∃ (A : Option Addr) (n c : Nat) (f : EnsF), v = .slice A n c ∧ n ≤ c ∧ c ≤ 9223372036854775807 ∧ EnsRd W W.heap.size A n f := by
  rcases open_slice Tryz.underlying38 hf with ⟨hcs, _⟩ | ⟨a, len, cap, m, q, D, Pl, hcs, _, hl, hm, hmm, _, hc⟩
  · obtain rfl : v = .slice none 0 0 := by simpa using hcs
    exact ⟨none, 0, 0, ⟨fun _ => none, fun _ => 0, fun _ => 0, fun _ _ => 0⟩, rfl, by omega, by omega, Rd.nil, fun j hj => by omega⟩
  · obtain rfl : v = .slice (some a) len cap := by simpa using hcs
    rw [if_pos rfl] at hmm
    unfold maxLen at hm
    have h1 : Tryz.prog.cellsOf 36 = 1 := by kernel_rfl
    rw [h1] at hc
    have each : ∀ i, i < m → ∃ c : Option Addr × Nat × Nat × (Nat → Int), W.cell? (a.add i) = some (.slice c.1 c.2.1 c.2.2.1) ∧ c.2.1 ≤ 9223372036854775807 ∧ Rd W W.heap.size c.1 c.2.1 (fun j => .int .i64 (c.2.2.2 j)) := fun i hi => by
      obtain ⟨cs, h1, h2⟩ := hc i hi
      have h3 := World.cells?_some h1
      match cs, h3.2.1 with
      | [c0], _ =>
        obtain ⟨B, n', c', f, rfl, hl', hm', hR⟩ := ints_at h2
        have h4 := h3.2.2 0 (by omega)
        rw [Deep.add_add, Nat.mul_one, Nat.add_zero] at h4
        exact ⟨(B, n', c', f), h4, Nat.le_trans hl' hm', hR⟩
    obtain ⟨c, hc'⟩ := choose_lt each
    refine ⟨_, _, _, ⟨fun j => (c j).1, fun j => (c j).2.1, fun j => (c j).2.2.1, fun j => (c j).2.2.2⟩, rfl, hl, hm, fun hn => ?_, fun j hj => ?_⟩
    · have h0 := (hc' 0 (by omega)).1
      have hb : a.block < W.heap.size := by have := World.block_lt_of_cell? W _ h0; rwa [add_block] at this
      exact Rd.of_add (m := len) hb (fun j hj => (hc' j (by omega)).1) hn
    · obtain ⟨_, hz, hR⟩ := hc' j (by omega)
      exact ⟨hR, hz⟩
/-- one ensemble's cells -/
structure EnsC where
  bd : Int
  md : Int
  EA : Option Addr
  en : Nat
  ec : Nat
  EX : EnsF
instance : Inhabited EnsC := ⟨⟨0, 0, none, 0, 0, ⟨fun _ => none, fun _ => 0, fun _ => 0, fun _ _ => 0⟩⟩⟩
def EnsC.cells (c : EnsC) : List Value := [.int .i64 c.bd, .int .i64 c.md, .slice c.EA c.en c.ec]
set_option maxRecDepth 100000 in
theorem ensemble_at {fuel : Nat} {cs : List Value} (hl : cs.length = 3) {x : DataW H × List MemPlace} (h : DataW.trod enc Tryz.prog W 0 (fun _ => true) true fuel 40 cs = some x) :
    ∃ c : EnsC, cs = c.cells ∧ c.en ≤ 9223372036854775807 ∧ EnsRd W W.heap.size c.EA c.en c.EX := by
  obtain ⟨q, hg⟩ := cells_fields Tryz.underlying40 (by kernel_rfl) hl h
  match cs, hl with
  | [c0, c1, c2], _ =>
    obtain ⟨y0, g0⟩ := hg 0 _ _ rfl rfl
    obtain ⟨y1, g1⟩ := hg 1 _ _ rfl rfl
    obtain ⟨y2, g2⟩ := hg 2 _ _ rfl rfl
    obtain ⟨bd, rfl⟩ := num_at g0
    obtain ⟨md, rfl⟩ := num_at g1
    obtain ⟨EA, en, ec, EX, rfl, hl1, hm1, hR⟩ := members_at g2
    exact ⟨⟨bd, md, EA, en, ec, EX⟩, rfl, Nat.le_trans hl1 hm1, hR⟩
set_option maxRecDepth 100000 in
/-- an argument of type []api.Ensemble -/
theorem open_ensembles (hv : Value.okWide Tryz.prog W r b0 22 v) (h : DataW.Trod enc Tryz.prog W 0 (fun _ => true) true 22 v d p) :
    ∃ (A : Option Addr) (n c : Nat) (f : EnssF), v = .slice A n c ∧ n ≤ c ∧ c ≤ 9223372036854775807 ∧ EnssRd W W.heap.size A n f := by
  obtain ⟨A, n, c0, rfl⟩ := okWide_slice Tryz.underlying22 hv
  obtain ⟨fuel, hf⟩ := h
  rcases open_slice Tryz.underlying22 hf with ⟨hcs, _⟩ | ⟨a, len, cap, m, q, D, Pl, hcs, _, hl, hm, hmm, _, hc⟩
  · obtain ⟨rfl, rfl, rfl⟩ : A = none ∧ n = 0 ∧ c0 = 0 := by simpa [Value.cells] using hcs
    exact ⟨none, 0, 0, ⟨fun _ => 0, fun _ => 0, fun _ => none, fun _ => 0, fun _ => 0, fun _ => ⟨fun _ => none, fun _ => 0, fun _ => 0, fun _ _ => 0⟩⟩, rfl, by omega, by omega, Rd.nil, fun j hj => by omega⟩
  · obtain ⟨rfl, rfl, rfl⟩ : A = some a ∧ n = len ∧ c0 = cap := by simpa [Value.cells] using hcs
    rw [if_pos rfl] at hmm
    unfold maxLen at hm
    have h5 : Tryz.prog.cellsOf 40 = 3 := by kernel_rfl
    rw [h5] at hc
    have each : ∀ i, i < m → ∃ c : EnsC, (∀ k, k < 3 → W.cell? ((a.add (i * 3)).add k) = c.cells[k]?) ∧ c.en ≤ 9223372036854775807 ∧ EnsRd W W.heap.size c.EA c.en c.EX := fun i hi => by
      obtain ⟨cs, h1, h2⟩ := hc i hi
      have h3 := World.cells?_some h1
      obtain ⟨c, rfl, hz, hF⟩ := ensemble_at h3.2.1 h2
      exact ⟨c, fun k hk => h3.2.2 k hk, hz, hF⟩
    obtain ⟨c, hc'⟩ := choose_lt each
    refine ⟨_, _, _, ⟨fun j => (c j).bd, fun j => (c j).md, fun j => (c j).EA, fun j => (c j).en, fun j => (c j).ec, fun j => (c j).EX⟩, rfl, hl, hm, fun hn => ?_, fun j hj => ?_⟩
    · have h0 := (hc' 0 (by omega)).1 0 (by omega)
      have hb : a.block < W.heap.size := by have := World.block_lt_of_cell? W _ (h0.trans (show _ = some _ from rfl)); rwa [add_block, add_block] at this
      refine Rd.of_add (m := n * 3) hb (fun j hj => ?_) hn
      obtain ⟨i, k, hk, rfl⟩ : ∃ i k, k < 3 ∧ j = i * 3 + k := ⟨j / 3, j % 3, by omega, by omega⟩
      have h1 := (hc' i (by omega)).1 k hk
      rw [Deep.add_add] at h1
      rw [h1]
      unfold EnssF.cells
      match k, hk with
      | 0, _ => rw [Nat.add_zero, if_pos (by omega), show i * 3 / 3 = i by omega]; rfl
      | 1, _ => rw [if_neg (by omega), if_pos (by omega), show (i * 3 + 1) / 3 = i by omega]; rfl
      | 2, _ => rw [if_neg (by omega), if_neg (by omega), show (i * 3 + 2) / 3 = i by omega]; rfl
    · obtain ⟨_, hz, hR⟩ := hc' j (by omega)
      exact ⟨hR, hz⟩
set_option maxRecDepth 100000 in
/-- an argument of type api.Budget -/
theorem open_budget (hv : Value.okWide Tryz.prog W r b0 25 v) (h : DataW.Trod enc Tryz.prog W 0 (fun _ => true) true 25 v d p) :
    ∃ fa of_ : Int, v = .agg #[.int .i64 fa, .int .i64 of_] := by
  obtain ⟨cs, q, rfl, hl, hg⟩ := open_fields Tryz.underlying25 (by kernel_rfl) (by kernel_rfl) hv h
  match cs, hl with
  | [c0, c1], _ =>
    obtain ⟨y0, g0⟩ := hg 0 _ _ rfl rfl
    obtain ⟨y1, g1⟩ := hg 1 _ _ rfl rfl
    obtain ⟨fa, rfl⟩ := num_at g0
    obtain ⟨of_, rfl⟩ := num_at g1
    exact ⟨fa, of_, rfl⟩
end
end Go.Proofs.YtonkjnkokikpgaaGreat
