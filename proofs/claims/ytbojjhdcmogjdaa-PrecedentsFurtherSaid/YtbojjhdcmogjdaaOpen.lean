/- The arguments of the laws, opened: a book of cases, a case. Plain lemmas. -/
import Derived.Test.YtbojjhdcmogjdaaLaw
import Derived.Test.YtbojjhdcmogjdaaFields
import Derived.Test.YtbojjhdcmogjdaaBook
namespace Go.Proofs.Ytbojjhdcmogjdaa
open Go.ChangeShapes Go.WideShapes Go.ChangeAt Go.RowKit Go.Deep

section
variable {H : Type} {enc : TypeId × Value → H} {W : World} {r : Reach} {b0 : Nat} {v : Value} {d : DataW H} {p : List MemPlace}

/-- a slice of integers in memory, out of its reading -/
theorem ints_at {fuel : Nat} {v : Value} {x : DataW H × List MemPlace} (hf : DataW.trod enc Try.prog W 0 (fun _ => true) true fuel 22 [v] = some x) :
    ∃ (A : Option Addr) (n c : Nat) (f : Nat → Int), v = .slice A n c ∧ n ≤ c ∧ c ≤ 9223372036854775807 ∧ Rd W W.heap.size A n (fun j => .int .i64 (f j)) := by
  rcases open_ints Try.underlying22 Try.underlying3 (by kernel_rfl) hf with ⟨hcs, _⟩ | ⟨a, len, cap, zs, hcs, _, hl, hm, hz, _, hc, hw⟩
  · obtain rfl : v = .slice none 0 0 := by simpa using hcs
    exact ⟨none, 0, 0, fun _ => 0, rfl, by omega, by omega, Rd.nil⟩
  · obtain rfl : v = .slice (some a) len cap := by simpa using hcs
    rw [if_pos rfl] at hz
    unfold maxLen at hm
    refine ⟨_, _, _, fun j => zs.getD j 0, rfl, hl, hm, fun hn => ?_⟩
    have h0 := hc 0 (by omega)
    have hb : a.block < W.heap.size := World.block_lt_of_cell? W (a.add 0) h0
    exact Rd.of_add (m := len) hb (fun j hj => hc j (by omega)) hn
theorem num_at {fuel : Nat} {x : Value} {y : DataW H × List MemPlace} (h : DataW.trod enc Try.prog W 0 (fun _ => true) true fuel 3 [x] = some y) : ∃ a : Int, x = .int .i64 a := by
  obtain ⟨a, e, _, hw⟩ := DataW.trod_int Try.underlying3 h
  exact ⟨a, by simpa using e⟩

/-- one case's cells -/
structure CaseC where
  no : Int
  hr : Int
  wi : Int
  FA : Option Addr
  fn : Nat
  fc : Nat
  F : Nat → Int
  RA : Option Addr
  rn : Nat
  rc : Nat
  R : Nat → Int
instance : Inhabited CaseC := ⟨⟨0, 0, 0, none, 0, 0, fun _ => 0, none, 0, 0, fun _ => 0⟩⟩
def CaseC.cells (c : CaseC) : List Value := [.int .i64 c.no, .int .i64 c.hr, .int .i64 c.wi, .slice c.FA c.fn c.fc, .slice c.RA c.rn c.rc]
theorem case_at {fuel : Nat} {cs : List Value} (hl : cs.length = 5) {x : DataW H × List MemPlace} (h : DataW.trod enc Try.prog W 0 (fun _ => true) true fuel 44 cs = some x) :
    ∃ c : CaseC, cs = c.cells ∧ (c.fn ≤ 9223372036854775807 ∧ c.rn ≤ 9223372036854775807) ∧ Rd W W.heap.size c.FA c.fn (fun j => .int .i64 (c.F j)) ∧ Rd W W.heap.size c.RA c.rn (fun j => .int .i64 (c.R j)) := by
  obtain ⟨q, hg⟩ := cells_fields Try.underlying44 (by kernel_rfl) hl h
  match cs, hl with
  | [c0, c1, c2, c3, c4], _ =>
    obtain ⟨y0, g0⟩ := hg 0 _ _ rfl rfl
    obtain ⟨y1, g1⟩ := hg 1 _ _ rfl rfl
    obtain ⟨y2, g2⟩ := hg 2 _ _ rfl rfl
    obtain ⟨y3, g3⟩ := hg 3 _ _ rfl rfl
    obtain ⟨y4, g4⟩ := hg 4 _ _ rfl rfl
    obtain ⟨no, rfl⟩ := num_at g0
    obtain ⟨hr, rfl⟩ := num_at g1
    obtain ⟨wi, rfl⟩ := num_at g2
    obtain ⟨FA, fn, fc, F, rfl, hl1, hm1, hF⟩ := ints_at g3
    obtain ⟨RA, rn, rc, R, rfl, hl2, hm2, hR⟩ := ints_at g4
    exact ⟨⟨no, hr, wi, FA, fn, fc, F, RA, rn, rc, R⟩, rfl, ⟨Nat.le_trans hl1 hm1, Nat.le_trans hl2 hm2⟩, hF, hR⟩
/-- the cases in memory -/
theorem cases_at {fuel : Nat} {v : Value} {x : DataW H × List MemPlace} (hf : DataW.trod enc Try.prog W 0 (fun _ => true) true fuel 23 [v] = some x) :
    ∃ (CA : Option Addr) (n cc : Nat) (c : Nat → CaseC), v = .slice CA n cc ∧ n ≤ cc ∧ cc ≤ 9223372036854775807 ∧
      Rd W W.heap.size CA (n * 5) (csc (fun j => (c j).no) (fun j => (c j).hr) (fun j => (c j).wi) (fun j => (c j).FA) (fun j => (c j).fn) (fun j => (c j).fc) (fun j => (c j).RA) (fun j => (c j).rn) (fun j => (c j).rc)) ∧
      ∀ j, j < n → Rd W W.heap.size (c j).FA (c j).fn (fun k => .int .i64 ((c j).F k)) ∧ Rd W W.heap.size (c j).RA (c j).rn (fun k => .int .i64 ((c j).R k)) := by
  rcases open_slice Try.underlying23 hf with ⟨hcs, _⟩ | ⟨a, len, cap, m, q, D, Pl, hcs, _, hl, hm, hmm, _, hc⟩
  · obtain rfl : v = .slice none 0 0 := by simpa using hcs
    exact ⟨none, 0, 0, fun _ => default, rfl, by omega, by omega, Rd.nil, fun j hj => by omega⟩
  · obtain rfl : v = .slice (some a) len cap := by simpa using hcs
    rw [if_pos rfl] at hmm
    unfold maxLen at hm
    have h5 : Try.prog.cellsOf 44 = 5 := by kernel_rfl
    rw [h5] at hc
    have each : ∀ i, i < m → ∃ c : CaseC, (∀ k, k < 5 → W.cell? ((a.add (i * 5)).add k) = c.cells[k]?) ∧ Rd W W.heap.size c.FA c.fn (fun j => .int .i64 (c.F j)) ∧ Rd W W.heap.size c.RA c.rn (fun j => .int .i64 (c.R j)) := fun i hi => by
      obtain ⟨cs, h1, h2⟩ := hc i hi
      have h3 := World.cells?_some h1
      obtain ⟨c, rfl, _, hF, hR⟩ := case_at h3.2.1 h2
      exact ⟨c, fun k hk => h3.2.2 k hk, hF, hR⟩
    obtain ⟨c, hc'⟩ := choose_lt each
    refine ⟨_, _, _, c, rfl, hl, hm, fun hn => ?_, fun j hj => (hc' j (by omega)).2⟩
    have h0 := (hc' 0 (by omega)).1 0 (by omega)
    have hb : a.block < W.heap.size := by have := World.block_lt_of_cell? W _ (h0.trans (show _ = some _ from rfl)); rwa [add_block, add_block] at this
    refine Rd.of_add (m := len * 5) hb (fun j hj => ?_) hn
    obtain ⟨i, k, hk, rfl⟩ : ∃ i k, k < 5 ∧ j = i * 5 + k := ⟨j / 5, j % 5, by omega, by omega⟩
    have h1 := (hc' i (by omega)).1 k hk
    rw [Deep.add_add] at h1
    rw [h1]
    match k, hk with
    | 0, _ => rw [Nat.add_zero, csc_0]; rfl
    | 1, _ => rw [csc_1]; rfl
    | 2, _ => rw [csc_2]; rfl
    | 3, _ => rw [csc_3]; rfl
    | 4, _ => rw [csc_4]; rfl

/-- an argument of type api.Cases -/
theorem open_cases (hv : Value.okWide Try.prog W r b0 25 v) (h : DataW.Trod enc Try.prog W 0 (fun _ => true) true 25 v d p) :
    ∃ (SA CA : Option Addr) (sn sc n cc : Nat) (S no hr wi : Nat → Int) (FA RA : Nat → Option Addr) (fn fc rn rc : Nat → Nat) (F R : Nat → Nat → Int), v = .agg #[.slice SA sn sc, .slice CA n cc] ∧ (n ≤ cc ∧ cc ≤ 9223372036854775807) ∧
      RdK W W.heap.size SA sn S CA n no hr wi FA fn fc F RA rn rc R := by
  obtain ⟨cs, q, rfl, hl, hg⟩ := open_fields Try.underlying25 (by kernel_rfl) (by kernel_rfl) hv h
  match cs, hl with
  | [c0, c1], _ =>
    obtain ⟨y0, g0⟩ := hg 0 _ _ rfl rfl
    obtain ⟨y1, g1⟩ := hg 1 _ _ rfl rfl
    obtain ⟨SA, sn, sc, S, rfl, _, _, hS⟩ := ints_at g0
    obtain ⟨CA, n, cc, c, rfl, hl2, hm2, hC, hR⟩ := cases_at g1
    exact ⟨SA, CA, sn, sc, n, cc, S, _, _, _, _, _, _, _, _, _, fun j => (c j).F, fun j => (c j).R, rfl, ⟨hl2, hm2⟩, hS, hC, hR⟩
/-- an argument of type api.Case -/
theorem open_case (hv : Value.okWide Try.prog W r b0 44 v) (h : DataW.Trod enc Try.prog W 0 (fun _ => true) true 44 v d p) :
    ∃ c : CaseC, v = .agg #[.int .i64 c.no, .int .i64 c.hr, .int .i64 c.wi, .slice c.FA c.fn c.fc, .slice c.RA c.rn c.rc] ∧ (c.fn ≤ 9223372036854775807 ∧ c.rn ≤ 9223372036854775807) ∧ Rd W W.heap.size c.FA c.fn (fun j => .int .i64 (c.F j)) ∧ Rd W W.heap.size c.RA c.rn (fun j => .int .i64 (c.R j)) := by
  obtain ⟨cs, rfl, hsz⟩ := okWide_struct Try.underlying44 hv
  obtain ⟨l⟩ := cs
  obtain ⟨fuel, hf⟩ := h
  have hl : l.length = 5 := by simpa using hsz.trans (by kernel_rfl : Try.prog.cellsOf 44 = 5)
  obtain ⟨c, rfl, h1, h2, h3⟩ := case_at hl (by simpa [Value.cells] using hf)
  exact ⟨c, rfl, h1, h2, h3⟩
end
end Go.Proofs.Ytbojjhdcmogjdaa
