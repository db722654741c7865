/- Contract of sane: the examples come out as they must. -/
import Derived.Test.YtbojjhdcmogjdaaEqual
import Derived.Test.YtbojjhdcmogjdaaSame
import Derived.Test.YtbojjhdcmogjdaaFew
import Derived.Deep.OwnRows
import Derived.Laws.OwnMore
namespace Go.Proofs.Ytbojjhdcmogjdaa
open Go.RowKit

def sS (k : Nat) : Int := [0, 0, 1, 1].getD k 0
def sNo (j : Nat) : Int := [1, 2, 3].getD j 0
def sHr (j : Nat) : Int := [0, 5, 5].getD j 0
def sWi (j : Nat) : Int := [0, 1, 0].getD j 0
def sfn (j : Nat) : Nat := [2, 3, 3].getD j 0
def srn (j : Nat) : Nat := [1, 2, 1].getD j 0
def sF (j k : Nat) : Int := ([[0, 2], [1, 2, 3], [1, 2, 3]].getD j []).getD k 0
def sR (j k : Nat) : Int := ([[0], [2, 3], [1]].getD j []).getD k 0
def ads (l : List Nat) (j : Nat) : Option Addr := some ⟨l.getD j 0, 0, none⟩
theorem sSm {n : Nat} (hn : n ≤ 3) : SmK 4 n sfn srn := by
  refine ⟨by omega, by omega, fun j hj => ?_⟩
  match j, hj with
  | 0, _ => exact ⟨by decide, by decide⟩
  | 1, _ => exact ⟨by decide, by decide⟩
  | 2, _ => exact ⟨by decide, by decide⟩
  | j + 3, h => omega
theorem new_rd (W : World) (xs : List Int) : Rd (W.alloc (.cells (rowL xs).toArray 3)) (W.heap.size + 1) (some ⟨W.heap.size, 0, none⟩) xs.length (fun j => .int .i64 (xs.getD j 0)) := by
  have h1 := rd_new W (rowL xs).toArray 3 (fun j => .int .i64 (xs.getD j 0)) (fun j hj => by
    have h2 : j < xs.length := by simpa [rowL] using hj
    have := rowL_at xs j (by omega)
    simpa using this)
  simpa [rowL] using h1
theorem RdK.step {w w' : World} {SA CA : Option Addr} {sn n : Nat} {S no hr wi : Nat → Int} {FA RA : Nat → Option Addr} {fn fc rn rc : Nat → Nat} {F R : Nat → Nat → Int} (h : RdK w w.heap.size SA sn S CA n no hr wi FA fn fc F RA rn rc R) (hb : Below w.heap.size w w') : RdK w' w'.heap.size SA sn S CA n no hr wi FA fn fc F RA rn rc R :=
  (h.below hb).mono hb.size
theorem rd_step {w w' : World} {A : Option Addr} {n : Nat} {f : Nat → Value} (h : Rd w w.heap.size A n f) (hb : Below w.heap.size w w') : Rd w' w'.heap.size A n f := (h.below hb).mono hb.size

section
variable {SA CA : Option Addr} {sc cc n : Nat} {FA RA : Nat → Option Addr} {fc rc : Nat → Nat}
/-- the example's book in memory -/
def sB (W : World) (SA CA : Option Addr) (n : Nat) (FA : Nat → Option Addr) (fc : Nat → Nat) (RA : Nat → Option Addr) (rc : Nat → Nat) : Prop := RdK W W.heap.size SA 4 sS CA n sNo sHr sWi FA sfn fc sF RA srn rc sR
theorem sane_binds (hn : n ≤ 3) (W : World) (xs : List Int) (side : Int) (v : Value) (hx : xs.length ≤ 1000)
    (hv : bdV (askE (chkE sS 4 n sNo sHr sWi sfn sF srn sR) 4 (fun j => xs.getD j 0) xs.length side) (fstB (bndP sS 4 sWi sfn sF srn sR (fun j => xs.getD j 0) xs.length side) 0 n) = v) (hr : sB W SA CA n FA fc RA rc) :
    Calls Try.prog 15 #[.agg #[.slice SA 4 sc, .slice CA n cc], .slice (some ⟨W.heap.size, 0, none⟩) xs.length xs.length, .int .i64 side] (W.alloc (.cells (rowL xs).toArray 3)) fun e w' => e = .returned v ∧ Below W.heap.size W w' := by
  have hb := below_alloc W (.cells (rowL xs).toArray 3)
  have h1 := Binds_15 (sc := sc) (cc := cc) (W.heap.size + 1) (some ⟨W.heap.size, 0, none⟩) xs.length xs.length (fun j => xs.getD j 0) side _ (sSm hn) hx (by simp) ((hr.below hb).mono (by omega)) (new_rd W xs)
  rw [hv] at h1
  exact h1.mono fun e w' ⟨h2, h3⟩ => ⟨h2, hb.trans (h3.mono hb.size)⟩
theorem sane_dist (hn : n ≤ 3) (W : World) (xs : List Int) (i : Nat) (L : List Int) (d : Bool) (hx : xs.length ≤ 1000)
    (hE : disE (askE (chkE sS 4 n sNo sHr sWi sfn sF srn sR) 4 (fun j => xs.getD j 0) xs.length 0) n i = 0)
    (hL : bitL (misN (mask (fun j => xs.getD j 0) xs.length) (othN (fav sS 0 4) (fav sS 1 4) (sWi i)) (mask (sF i) (sfn i))) 4 = L)
    (hd : (decide (misN (mask (fun j => xs.getD j 0) xs.length) (othN (fav sS 0 4) (fav sS 1 4) (sWi i)) (mask (sF i) (sfn i)) ≠ 0) && subB (mask (sR i) (srn i)) (mask (fun j => xs.getD j 0) xs.length)) = d) (hr : sB W SA CA n FA fc RA rc) :
    Calls Try.prog 19 #[.agg #[.slice SA 4 sc, .slice CA n cc], .int .i64 (i : Nat), .slice (some ⟨W.heap.size, 0, none⟩) xs.length xs.length] (W.alloc (.cells (rowL xs).toArray 3)) fun e w' => (∃ A k c, e = .returned (.tuple #[.slice A k c, .bool d, .int .i64 0]) ∧ k = L.length ∧ Rd w' w'.heap.size A k (fun j => .int .i64 (L.getD j 0)) ∧ ∀ q, (Value.slice A k c).ownBlock = some q → W.heap.size ≤ q) ∧ Below W.heap.size W w' := by
  have hb := below_alloc W (.cells (rowL xs).toArray 3)
  have h1 := Dist_19 (sc := sc) (cc := cc) (W.heap.size + 1) (some ⟨W.heap.size, 0, none⟩) xs.length xs.length (fun j => xs.getD j 0) (i : Nat) _ (sSm hn) hx (by simp) ((hr.below hb).mono (by omega)) (new_rd W xs)
  rw [Int.toNat_natCast, hL, hd, hE] at h1
  refine h1.mono ?_
  rintro e w' ⟨⟨⟨A, k, c, rfl, h5, h6⟩, h7⟩, h3⟩
  rw [if_pos rfl] at h5
  exact ⟨⟨A, k, c, by simp, h5, h6, fun q hq => by have := h7 _ _ _ rfl q hq; simp at this; omega⟩, hb.trans (h3.mono hb.size)⟩
theorem sane_may (hn : n ≤ 3) (W : World) (xs ys : List Int) (side : Int) (v : Value) (hx : xs.length ≤ 1000) (hy : ys.length ≤ 1000)
    (hv : myV (mayE (askE (chkE sS 4 n sNo sHr sWi sfn sF srn sR) 4 (fun j => xs.getD j 0) xs.length side) sS 4 (fun j => xs.getD j 0) xs.length (fun j => ys.getD j 0) ys.length side) (fstB (mayP sWi sfn sF srn sR (fun j => xs.getD j 0) xs.length (fun j => ys.getD j 0) ys.length side) 0 n) = v) (hr : sB W SA CA n FA fc RA rc) :
    Calls Try.prog 17 #[.agg #[.slice SA 4 sc, .slice CA n cc], .slice (some ⟨W.heap.size, 0, none⟩) xs.length xs.length, .slice (some ⟨W.heap.size + 1, 0, none⟩) ys.length ys.length, .int .i64 side] ((W.alloc (.cells (rowL xs).toArray 3)).alloc (.cells (rowL ys).toArray 3)) fun e w' => e = .returned v ∧ Below W.heap.size W w' := by
  have hb := (below_alloc W (.cells (rowL xs).toArray 3)).alloc (by simp) (.cells (rowL ys).toArray 3)
  have hy2 := new_rd (W.alloc (.cells (rowL xs).toArray 3)) ys
  rw [World.size_alloc] at hy2
  have hx2 := ((new_rd W xs).alloc (by simp) (.cells (rowL ys).toArray 3)).mono (show W.heap.size + 1 ≤ W.heap.size + 1 + 1 by omega)
  have h1 := May_17 (sc := sc) (cc := cc) (W.heap.size + 1 + 1) (some ⟨W.heap.size, 0, none⟩) (some ⟨W.heap.size + 1, 0, none⟩) xs.length xs.length ys.length ys.length (fun j => xs.getD j 0) (fun j => ys.getD j 0) side _ (sSm hn) hx hy (by simp) ((hr.below hb).mono (by omega)) hx2 hy2
  rw [hv] at h1
  exact h1.mono fun e w' ⟨h2, h3⟩ => ⟨h2, hb.trans (h3.mono hb.size)⟩
theorem sane_clash (hn : n ≤ 3) (W : World) (v : Value) (hv : clV (chkE sS 4 n sNo sHr sWi sfn sF srn sR) (prB (clsP sWi sfn sF srn sR) n 0 n) = v) (hr : sB W SA CA n FA fc RA rc) :
    Calls Try.prog 11 #[.agg #[.slice SA 4 sc, .slice CA n cc]] W fun e w' => e = .returned v ∧ Below W.heap.size W w' := by
  have h1 := Clash_11 (sc := sc) (cc := cc) W.heap.size W (sSm hn) (Nat.le_refl _) hr
  rw [hv] at h1
  exact h1
end

/-! ### the empty book -/
def nI (_ : Nat) : Int := 0
def nN (_ : Nat) : Nat := 0
def nII (_ _ : Nat) : Int := 0
def nA (_ : Nat) : Option Addr := none
theorem empty_book (w : World) (B : Nat) : RdK w B none 0 nI none 0 nI nI nI nA nN nN nII nA nN nN nII := ⟨Rd.nil, Rd.nil, fun j hj => by omega⟩
theorem empty_small : SmK 0 0 nN nN := ⟨by omega, by omega, fun j hj => by omega⟩
theorem sane_binds0 (W : World) : Calls Try.prog 15 #[.agg #[.slice none 0 0, .slice none 0 0], .slice (some ⟨W.heap.size, 0, none⟩) 1 1, .int .i64 0] (W.alloc (.cells #[.int .i64 0] 3)) fun e w' => e = .returned (.tuple #[.int .i64 0, .bool false, .int .i64 520]) ∧ Below W.heap.size W w' := by
  have hb := below_alloc W (.cells (rowL [0]).toArray 3)
  have h1 := Binds_15 (sc := 0) (cc := 0) (W.heap.size + 1) (some ⟨W.heap.size, 0, none⟩) 1 1 (fun j => [(0 : Int)].getD j 0) 0 _ empty_small (by omega) (by simp) (empty_book _ _) (new_rd W [0])
  exact h1.mono fun e w' ⟨h2, h3⟩ => ⟨h2, hb.trans (h3.mono hb.size)⟩
theorem sane_binds2 (W : World) : Calls Try.prog 15 #[.agg #[.slice none 0 0, .slice none 0 0], .slice none 0 0, .int .i64 2] W fun e w' => e = .returned (.tuple #[.int .i64 0, .bool false, .int .i64 1]) ∧ Below W.heap.size W w' := by
  have h1 := Binds_15 (sc := 0) (cc := 0) W.heap.size none 0 0 nI 2 W empty_small (by omega) (Nat.le_refl _) (empty_book _ _) Rd.nil
  exact h1
theorem sane_dist0 (W : World) : Calls Try.prog 19 #[.agg #[.slice none 0 0, .slice none 0 0], .int .i64 0, .slice none 0 0] W fun e w' => (∃ A k c, e = .returned (.tuple #[.slice A k c, .bool false, .int .i64 1])) ∧ Below W.heap.size W w' := by
  have h1 := Dist_19 (sc := 0) (cc := 0) W.heap.size none 0 0 nI 0 W empty_small (by omega) (Nat.le_refl _) (empty_book _ _) Rd.nil
  refine h1.mono ?_
  rintro e w' ⟨⟨⟨A, k, c, rfl, h5, h6⟩, _⟩, h3⟩
  exact ⟨⟨A, k, c, rfl⟩, h3⟩
theorem sane_check0 (W : World) : Calls Try.prog 13 #[.agg #[.slice none 0 0, .slice none 0 0]] W fun e w' => e = .returned (.int .i64 0) ∧ Below W.heap.size W w' := by
  have h1 := Check_13 (sc := 0) (cc := 0) W.heap.size W empty_small (Nat.le_refl _) (empty_book _ _)
  exact h1
theorem sane_check1 (W : World) : Calls Try.prog 13 #[.agg #[.slice (some ⟨W.heap.size, 0, none⟩) 1 1, .slice none 0 0]] (W.alloc (.cells #[.int .i64 2] 3)) fun e w' => e = .returned (.int .i64 520) ∧ Below W.heap.size W w' := by
  have hb := below_alloc W (.cells (rowL [2]).toArray 3)
  have h0 : RdK (W.alloc (.cells (rowL [2]).toArray 3)) (W.heap.size + 1) (some ⟨W.heap.size, 0, none⟩) 1 (fun j => [(2 : Int)].getD j 0) none 0 nI nI nI nA nN nN nII nA nN nN nII := ⟨new_rd W [2], Rd.nil, fun j hj => by omega⟩
  have h1 := Check_13 (sc := 1) (cc := 0) (W.heap.size + 1) _ ⟨by omega, by omega, fun j hj => by omega⟩ (by simp) h0
  exact h1.mono fun e w' ⟨h2, h3⟩ => ⟨h2, hb.trans (h3.mono hb.size)⟩
theorem made_at : ∀ j, j < 33 → (madeCells #[Value.int .i64 0] 33)[j]? = some (.int .i64 (nI j)) := by
  intro j hj
  rw [← Array.getElem?_toList, toList_madeCells_one, List.getElem?_replicate, if_pos hj]
  rfl
theorem sane_check2 (W : World) (g : Nat) (hg : Rd W W.heap.size (some ⟨g, 0, none⟩) 33 (fun j => .int .i64 (nI j))) (c : Nat) : Calls Try.prog 13 #[.agg #[.slice (some ⟨g, 0, none⟩) 33 c, .slice none 0 0]] W fun e w' => e = .returned (.int .i64 2) ∧ Below W.heap.size W w' := by
  have h0 : RdK W W.heap.size (some ⟨g, 0, none⟩) 33 nI none 0 nI nI nI nA nN nN nII nA nN nN nII := ⟨hg, Rd.nil, fun j hj => by omega⟩
  have h1 := Check_13 (sc := c) (cc := 0) W.heap.size W ⟨by omega, by omega, fun j hj => by omega⟩ (Nat.le_refl _) h0
  exact h1
theorem cells_rd {W : World} {g n B : Nat} {cs : Array Value} {t : TypeId} (h : Blk W g t cs) (hB : g < B) (f : Nat → Value) (hf : ∀ j, j < n → cs[j]? = some (f j)) : Rd W B (some ⟨g, 0, none⟩) n f := fun _ =>
  ⟨_, _, rfl, hB, fun j hj => by rw [h.cell, Nat.zero_add]; exact hf j hj⟩
def two44 (g1 g2 g3 g4 : Nat) : Array Value := #[.int .i64 1, .int .i64 0, .int .i64 0, .slice (some ⟨g1, 0, none⟩) 2 2, .slice (some ⟨g2, 0, none⟩) 1 1, .int .i64 2, .int .i64 5, .int .i64 1, .slice (some ⟨g3, 0, none⟩) 3 3, .slice (some ⟨g4, 0, none⟩) 2 2]
theorem rows_at {W : World} {g1 g2 g3 g4 : Nat} (h1 : Blk W g1 3 #[.int .i64 0, .int .i64 2]) (h2 : Blk W g2 3 #[.int .i64 0]) (h3 : Blk W g3 3 #[.int .i64 1, .int .i64 2, .int .i64 3]) (h4 : Blk W g4 3 #[.int .i64 2, .int .i64 3]) :
    (Rd W W.heap.size (some ⟨g1, 0, none⟩) 2 (fun k => .int .i64 (sF 0 k)) ∧ Rd W W.heap.size (some ⟨g2, 0, none⟩) 1 (fun k => .int .i64 (sR 0 k))) ∧ (Rd W W.heap.size (some ⟨g3, 0, none⟩) 3 (fun k => .int .i64 (sF 1 k)) ∧ Rd W W.heap.size (some ⟨g4, 0, none⟩) 2 (fun k => .int .i64 (sR 1 k))) := by
  refine ⟨⟨cells_rd h1 h1.lt _ ?_, cells_rd h2 h2.lt _ ?_⟩, cells_rd h3 h3.lt _ ?_, cells_rd h4 h4.lt _ ?_⟩
  · intro j hj
    match j, hj with
    | 0, _ => rfl
    | 1, _ => rfl
  · intro j hj
    match j, hj with
    | 0, _ => rfl
  · intro j hj
    match j, hj with
    | 0, _ => rfl
    | 1, _ => rfl
    | 2, _ => rfl
  · intro j hj
    match j, hj with
    | 0, _ => rfl
    | 1, _ => rfl
theorem sides_at {W : World} {g0 : Nat} (h0 : Blk W g0 3 #[.int .i64 0, .int .i64 0, .int .i64 1, .int .i64 1]) : Rd W W.heap.size (some ⟨g0, 0, none⟩) 4 (fun k => .int .i64 (sS k)) := by
  refine cells_rd h0 h0.lt _ ?_
  intro j hj
  match j, hj with
  | 0, _ => rfl
  | 1, _ => rfl
  | 2, _ => rfl
  | 3, _ => rfl
theorem book_two {W : World} {g0 g1 g2 g3 g4 g5 : Nat} (h0 : Blk W g0 3 #[.int .i64 0, .int .i64 0, .int .i64 1, .int .i64 1]) (h1 : Blk W g1 3 #[.int .i64 0, .int .i64 2]) (h2 : Blk W g2 3 #[.int .i64 0]) (h3 : Blk W g3 3 #[.int .i64 1, .int .i64 2, .int .i64 3]) (h4 : Blk W g4 3 #[.int .i64 2, .int .i64 3]) (h5 : Blk W g5 44 (two44 g1 g2 g3 g4)) :
    sB W (some ⟨g0, 0, none⟩) (some ⟨g5, 0, none⟩) 2 (ads [g1, g3]) sfn (ads [g2, g4]) srn := by
  refine ⟨sides_at h0, cells_rd h5 h5.lt _ ?_, ?_⟩
  · intro j hj
    match j, hj with
    | 0, _ => rfl
    | 1, _ => rfl
    | 2, _ => rfl
    | 3, _ => rfl
    | 4, _ => rfl
    | 5, _ => rfl
    | 6, _ => rfl
    | 7, _ => rfl
    | 8, _ => rfl
    | 9, _ => rfl
  · intro j hj
    match j, hj with
    | 0, _ => exact (rows_at h1 h2 h3 h4).1
    | 1, _ => exact (rows_at h1 h2 h3 h4).2
def new44 (g6 g7 : Nat) : List Value := [.int .i64 3, .int .i64 5, .int .i64 0, .slice (some ⟨g6, 0, none⟩) 3 3, .slice (some ⟨g7, 0, none⟩) 1 1]
theorem book_three {W : World} {g0 g1 g2 g3 g4 g6 g7 base c : Nat} {A : Option Addr} (h0 : Blk W g0 3 #[.int .i64 0, .int .i64 0, .int .i64 1, .int .i64 1]) (h1 : Blk W g1 3 #[.int .i64 0, .int .i64 2]) (h2 : Blk W g2 3 #[.int .i64 0]) (h3 : Blk W g3 3 #[.int .i64 1, .int .i64 2, .int .i64 3]) (h4 : Blk W g4 3 #[.int .i64 2, .int .i64 3])
    (h6 : Blk W g6 3 #[.int .i64 1, .int .i64 2, .int .i64 3]) (h7 : Blk W g7 3 #[.int .i64 1]) (h5 : W.ownsRow base 44 5 (.slice A 3 c) 3 ((two44 g1 g2 g3 g4).toList ++ new44 g6 g7)) :
    sB W (some ⟨g0, 0, none⟩) A 3 (ads [g1, g3, g6]) sfn (ads [g2, g4, g7]) srn := by
  refine ⟨sides_at h0, Rd.of_own h5 ?_, ?_⟩
  · intro j hj
    match j, hj with
    | 0, _ => rfl
    | 1, _ => rfl
    | 2, _ => rfl
    | 3, _ => rfl
    | 4, _ => rfl
    | 5, _ => rfl
    | 6, _ => rfl
    | 7, _ => rfl
    | 8, _ => rfl
    | 9, _ => rfl
    | 10, _ => rfl
    | 11, _ => rfl
    | 12, _ => rfl
    | 13, _ => rfl
    | 14, _ => rfl
  · intro j hj
    match j, hj with
    | 0, _ => exact (rows_at h1 h2 h3 h4).1
    | 1, _ => exact (rows_at h1 h2 h3 h4).2
    | 2, _ =>
      refine ⟨cells_rd h6 h6.lt _ ?_, cells_rd h7 h7.lt _ ?_⟩
      · intro j hj
        match j, hj with
        | 0, _ => rfl
        | 1, _ => rfl
        | 2, _ => rfl
      · intro j hj
        match j, hj with
        | 0, _ => rfl
theorem info44 : (Try.prog.info? 44).map (fun i => (i.zero, i.size, i.bytes)) = some (some (.agg #[.int .i64 0, .int .i64 0, .int .i64 0, .slice none 0 0, .slice none 0 0]), 5, 72) := by kernel_rfl
theorem own_set_ne {w : World} {base : Nat} {e : TypeId} {size n : Nat} {v : Value} {xs : List Value} (h : w.ownsRow base e size v n xs) {p : Addr} (hp : v.ownBlock ≠ some p.block) (u : Value) : (w.setCell p u).ownsRow base e size v n xs := by
  obtain ⟨b, o, sp⟩ := p
  have hg : w.grownBy (w.setCell ⟨b, o, sp⟩ u) (some b) :=
    ⟨rfl, rfl, rfl, by simp [World.setCell], fun k hk hne => Below.heap_setCell _ _ _ k (fun e => hne (by rw [e]))⟩
  exact h.kept hg (.inr fun e2 => hp e2)
theorem five_at {w : World} {g : Nat} {a b c d e : Value} {t : TypeId} (h : Blk w g t #[a, b, c, d, e]) : ∀ j u, [a, b, c, d, e][j]? = some u → w.cell? ((⟨g, 0, none⟩ : Addr).add j) = some u := by
  intro j u hj
  rw [add_none, Nat.zero_add, h.cell]
  simpa using hj
theorem one_five (g6 g7 : Nat) : ∀ u ∈ new44 g6 g7, u.oneCell' = true := by
  intro u hu
  simp [new44] at hu
  rcases hu with rfl | rfl | rfl | rfl | rfl <;> rfl

set_option maxRecDepth 100000 in
set_option maxHeartbeats 4000000 in
theorem sane_9 (w : World) : Calls Try.prog 9 #[] w fun e w' => e = .returned (.bool true) ∧ Below w.heap.size w w' := by
  go_enter Try.func9, Try.ntmps9
  go_upto_region 2 with fail
  obtain ⟨u0, hu⟩ : ∃ zz, zz = ((((((w.alloc (.cells #[.int .i64 0, .int .i64 0, .int .i64 1, .int .i64 1] 3)).alloc (.cells #[.int .i64 0, .int .i64 2] 3)).alloc (.cells #[.int .i64 0] 3)).alloc (.cells #[.int .i64 1, .int .i64 2, .int .i64 3] 3)).alloc (.cells #[.int .i64 2, .int .i64 3] 3)).alloc (.cells #[.int .i64 1, .int .i64 0, .int .i64 0, .slice (some ⟨w.heap.size + 1, 0, none⟩) 2 2, .slice (some ⟨w.heap.size + 1 + 1, 0, none⟩) 1 1, .int .i64 2, .int .i64 5, .int .i64 1, .slice (some ⟨w.heap.size + 1 + 1 + 1, 0, none⟩) 3 3, .slice (some ⟨w.heap.size + 1 + 1 + 1 + 1, 0, none⟩) 2 2] 44)).alloc (.cells #[.slice (some ⟨w.heap.size, 0, none⟩) 4 4, .slice (some ⟨w.heap.size + 1 + 1 + 1 + 1 + 1, 0, none⟩) 2 2] 25) := ⟨_, rfl⟩
  have B0 : Hid (Below w.heap.size w u0) := Lib.hid (by rw [hu]; (repeat (first | exact Below.refl _ _ | exact below_alloc _ _ | refine Below.alloc ?_ (by simp; omega) _ | refine Below.alloc ?_ (by simp) _)))
  have K0 : Hid (Blk u0 (w.heap.size + 1 + 1 + 1 + 1 + 1 + 1) 25 #[.slice (some ⟨w.heap.size, 0, none⟩) 4 4, .slice (some ⟨w.heap.size + 1 + 1 + 1 + 1 + 1, 0, none⟩) 2 2]) := Lib.hid (hu ▸ Blk.new' (by simp))

  have S0 : Hid (Blk u0 (w.heap.size) 3 #[.int .i64 0, .int .i64 0, .int .i64 1, .int .i64 1]) := Lib.hid (hu ▸ ((((((((Blk.new' (by simp)).alloc _).alloc _).alloc _).alloc _).alloc _).alloc _)))
  have F0 : Hid (Blk u0 (w.heap.size + 1) 3 #[.int .i64 0, .int .i64 2]) := Lib.hid (hu ▸ (((((((Blk.new' (by simp)).alloc _).alloc _).alloc _).alloc _).alloc _)))
  have Q0 : Hid (Blk u0 (w.heap.size + 1 + 1) 3 #[.int .i64 0]) := Lib.hid (hu ▸ ((((((Blk.new' (by simp)).alloc _).alloc _).alloc _).alloc _)))
  have H0 : Hid (Blk u0 (w.heap.size + 1 + 1 + 1) 3 #[.int .i64 1, .int .i64 2, .int .i64 3]) := Lib.hid (hu ▸ (((((Blk.new' (by simp)).alloc _).alloc _).alloc _)))
  have P0 : Hid (Blk u0 (w.heap.size + 1 + 1 + 1 + 1) 3 #[.int .i64 2, .int .i64 3]) := Lib.hid (hu ▸ ((((Blk.new' (by simp)).alloc _).alloc _)))
  have Y0 : Hid (Blk u0 (w.heap.size + 1 + 1 + 1 + 1 + 1) 44 (two44 (w.heap.size + 1) (w.heap.size + 1 + 1) (w.heap.size + 1 + 1 + 1) (w.heap.size + 1 + 1 + 1 + 1))) := Lib.hid (hu ▸ (((Blk.new' (by simp)).alloc _)))
  have R0 := Lib.hid (book_two S0.out F0.out Q0.out H0.out P0.out Y0.out)
  rw [← hu]
  clear hu
  have cb0 : u0.cell? ⟨w.heap.size + 1 + 1 + 1 + 1 + 1 + 1, 0, none⟩ = some (.slice (some ⟨w.heap.size, 0, none⟩) 4 4) := K0.out.cell 0
  have cb1 : u0.cell? ⟨w.heap.size + 1 + 1 + 1 + 1 + 1 + 1, 1, none⟩ = some (.slice (some ⟨w.heap.size + 1 + 1 + 1 + 1 + 1, 0, none⟩) 2 2) := K0.out.cell 1
  go_wp2_with fail
  refine (sane_binds (by decide) u0 [0, 1, 2] 0 (.tuple #[.int .i64 0, .bool true, .int .i64 0]) (by decide) (by rfl) R0.out).mono ?_
  rintro e u1 ⟨rfl, hb⟩
  have B1 := Lib.hid (B0.out.trans (hb.mono B0.out.size))
  have K1 := Lib.hid (K0.out.below hb K0.out.lt)
  have R1 := Lib.hid (RdK.step R0.out hb)
  have S1 := Lib.hid (S0.out.below hb S0.out.lt)
  have F1 := Lib.hid (F0.out.below hb F0.out.lt)
  have Q1 := Lib.hid (Q0.out.below hb Q0.out.lt)
  have H1 := Lib.hid (H0.out.below hb H0.out.lt)
  have P1 := Lib.hid (P0.out.below hb P0.out.lt)
  have Y1 := Lib.hid (Y0.out.below hb Y0.out.lt)
  clear S0 F0 Q0 H0 P0 Y0
  clear hb B0 K0 R0 cb0 cb1 
  have cb0 : u1.cell? ⟨w.heap.size + 1 + 1 + 1 + 1 + 1 + 1, 0, none⟩ = some (.slice (some ⟨w.heap.size, 0, none⟩) 4 4) := K1.out.cell 0
  have cb1 : u1.cell? ⟨w.heap.size + 1 + 1 + 1 + 1 + 1 + 1, 1, none⟩ = some (.slice (some ⟨w.heap.size + 1 + 1 + 1 + 1 + 1, 0, none⟩) 2 2) := K1.out.cell 1
  go_wp2_with fail
  refine (sane_binds (by decide) u1 [0, 2, 3] 0 (.tuple #[.int .i64 0, .bool false, .int .i64 0]) (by decide) (by rfl) R1.out).mono ?_
  rintro e u2 ⟨rfl, hb⟩
  have B2 := Lib.hid (B1.out.trans (hb.mono B1.out.size))
  have K2 := Lib.hid (K1.out.below hb K1.out.lt)
  have R2 := Lib.hid (RdK.step R1.out hb)
  have S2 := Lib.hid (S1.out.below hb S1.out.lt)
  have F2 := Lib.hid (F1.out.below hb F1.out.lt)
  have Q2 := Lib.hid (Q1.out.below hb Q1.out.lt)
  have H2 := Lib.hid (H1.out.below hb H1.out.lt)
  have P2 := Lib.hid (P1.out.below hb P1.out.lt)
  have Y2 := Lib.hid (Y1.out.below hb Y1.out.lt)
  clear S1 F1 Q1 H1 P1 Y1
  clear hb B1 K1 R1 cb0 cb1 
  have cb0 : u2.cell? ⟨w.heap.size + 1 + 1 + 1 + 1 + 1 + 1, 0, none⟩ = some (.slice (some ⟨w.heap.size, 0, none⟩) 4 4) := K2.out.cell 0
  have cb1 : u2.cell? ⟨w.heap.size + 1 + 1 + 1 + 1 + 1 + 1, 1, none⟩ = some (.slice (some ⟨w.heap.size + 1 + 1 + 1 + 1 + 1, 0, none⟩) 2 2) := K2.out.cell 1
  go_wp2_with fail
  refine (sane_dist (by decide) u2 [0, 2, 3] 0 [3] true (by decide) (by rfl) (by rfl) (by rfl) R2.out).mono ?_
  rintro e u3 ⟨⟨AD, kD, cD, rfl, hkD, hD, hqD⟩, hb⟩
  have OD := Lib.hid (fun q hh => Nat.lt_of_lt_of_le K2.out.lt (hqD q hh))
  clear hqD
  obtain rfl : kD = 1 := hkD
  have B3 := Lib.hid (B2.out.trans (hb.mono B2.out.size))
  have K3 := Lib.hid (K2.out.below hb K2.out.lt)
  have R3 := Lib.hid (RdK.step R2.out hb)
  have S3 := Lib.hid (S2.out.below hb S2.out.lt)
  have F3 := Lib.hid (F2.out.below hb F2.out.lt)
  have Q3 := Lib.hid (Q2.out.below hb Q2.out.lt)
  have H3 := Lib.hid (H2.out.below hb H2.out.lt)
  have P3 := Lib.hid (P2.out.below hb P2.out.lt)
  have Y3 := Lib.hid (Y2.out.below hb Y2.out.lt)
  clear S2 F2 Q2 H2 P2 Y2
  clear hb B2 K2 R2 cb0 cb1 
  have D3 := Lib.hid hD
  clear hD
  have cb0 : u3.cell? ⟨w.heap.size + 1 + 1 + 1 + 1 + 1 + 1, 0, none⟩ = some (.slice (some ⟨w.heap.size, 0, none⟩) 4 4) := K3.out.cell 0
  have cb1 : u3.cell? ⟨w.heap.size + 1 + 1 + 1 + 1 + 1 + 1, 1, none⟩ = some (.slice (some ⟨w.heap.size + 1 + 1 + 1 + 1 + 1, 0, none⟩) 2 2) := K3.out.cell 1
  go_wp2_with fail
  refine (sane_dist (by decide) u3 [0, 2] 0 [] false (by decide) (by rfl) (by rfl) (by rfl) R3.out).mono ?_
  rintro e u4 ⟨⟨AG, kG, cG, rfl, hkG, hG, hqG⟩, hb⟩
  have OG := Lib.hid (fun q hh => Nat.lt_of_lt_of_le K3.out.lt (hqG q hh))
  clear hqG
  obtain rfl : kG = 0 := hkG
  have B4 := Lib.hid (B3.out.trans (hb.mono B3.out.size))
  have K4 := Lib.hid (K3.out.below hb K3.out.lt)
  have R4 := Lib.hid (RdK.step R3.out hb)
  have S4 := Lib.hid (S3.out.below hb S3.out.lt)
  have F4 := Lib.hid (F3.out.below hb F3.out.lt)
  have Q4 := Lib.hid (Q3.out.below hb Q3.out.lt)
  have H4 := Lib.hid (H3.out.below hb H3.out.lt)
  have P4 := Lib.hid (P3.out.below hb P3.out.lt)
  have Y4 := Lib.hid (Y3.out.below hb Y3.out.lt)
  clear S3 F3 Q3 H3 P3 Y3
  have D4 := Lib.hid (rd_step D3.out hb)
  clear hb B3 K3 R3 cb0 cb1 D3
  have G4 := Lib.hid hG
  clear hG
  clear G4
  have cb0 : u4.cell? ⟨w.heap.size + 1 + 1 + 1 + 1 + 1 + 1, 0, none⟩ = some (.slice (some ⟨w.heap.size, 0, none⟩) 4 4) := K4.out.cell 0
  have cb1 : u4.cell? ⟨w.heap.size + 1 + 1 + 1 + 1 + 1 + 1, 1, none⟩ = some (.slice (some ⟨w.heap.size + 1 + 1 + 1 + 1 + 1, 0, none⟩) 2 2) := K4.out.cell 1
  go_wp2_with fail
  refine (sane_may (by decide) u4 [0, 2] [2] 1 (.tuple #[.int .i64 0, .bool false, .int .i64 0]) (by decide) (by decide) (by rfl) R4.out).mono ?_
  rintro e u5 ⟨rfl, hb⟩
  have B5 := Lib.hid (B4.out.trans (hb.mono B4.out.size))
  have K5 := Lib.hid (K4.out.below hb K4.out.lt)
  have R5 := Lib.hid (RdK.step R4.out hb)
  have S5 := Lib.hid (S4.out.below hb S4.out.lt)
  have F5 := Lib.hid (F4.out.below hb F4.out.lt)
  have Q5 := Lib.hid (Q4.out.below hb Q4.out.lt)
  have H5 := Lib.hid (H4.out.below hb H4.out.lt)
  have P5 := Lib.hid (P4.out.below hb P4.out.lt)
  have Y5 := Lib.hid (Y4.out.below hb Y4.out.lt)
  clear S4 F4 Q4 H4 P4 Y4
  have D5 := Lib.hid (rd_step D4.out hb)
  clear hb B4 K4 R4 cb0 cb1 D4
  have cb0 : u5.cell? ⟨w.heap.size + 1 + 1 + 1 + 1 + 1 + 1, 0, none⟩ = some (.slice (some ⟨w.heap.size, 0, none⟩) 4 4) := K5.out.cell 0
  have cb1 : u5.cell? ⟨w.heap.size + 1 + 1 + 1 + 1 + 1 + 1, 1, none⟩ = some (.slice (some ⟨w.heap.size + 1 + 1 + 1 + 1 + 1, 0, none⟩) 2 2) := K5.out.cell 1
  go_wp2_with fail
  refine (sane_may (by decide) u5 [0, 2, 3] [3] 1 (.tuple #[.int .i64 0, .bool true, .int .i64 0]) (by decide) (by decide) (by rfl) R5.out).mono ?_
  rintro e u6 ⟨rfl, hb⟩
  have B6 := Lib.hid (B5.out.trans (hb.mono B5.out.size))
  have K6 := Lib.hid (K5.out.below hb K5.out.lt)
  have R6 := Lib.hid (RdK.step R5.out hb)
  have S6 := Lib.hid (S5.out.below hb S5.out.lt)
  have F6 := Lib.hid (F5.out.below hb F5.out.lt)
  have Q6 := Lib.hid (Q5.out.below hb Q5.out.lt)
  have H6 := Lib.hid (H5.out.below hb H5.out.lt)
  have P6 := Lib.hid (P5.out.below hb P5.out.lt)
  have Y6 := Lib.hid (Y5.out.below hb Y5.out.lt)
  clear S5 F5 Q5 H5 P5 Y5
  have D6 := Lib.hid (rd_step D5.out hb)
  clear hb B5 K5 R5 cb0 cb1 D5
  have cb0 : u6.cell? ⟨w.heap.size + 1 + 1 + 1 + 1 + 1 + 1, 0, none⟩ = some (.slice (some ⟨w.heap.size, 0, none⟩) 4 4) := K6.out.cell 0
  have cb1 : u6.cell? ⟨w.heap.size + 1 + 1 + 1 + 1 + 1 + 1, 1, none⟩ = some (.slice (some ⟨w.heap.size + 1 + 1 + 1 + 1 + 1, 0, none⟩) 2 2) := K6.out.cell 1
  go_wp2_with fail
  refine (sane_clash (by decide) u6 (.tuple #[.int .i64 0, .int .i64 0, .bool false, .int .i64 0]) (by rfl) R6.out).mono ?_
  rintro e u7 ⟨rfl, hb⟩
  have B7 := Lib.hid (B6.out.trans (hb.mono B6.out.size))
  have K7 := Lib.hid (K6.out.below hb K6.out.lt)
  have R7 := Lib.hid (RdK.step R6.out hb)
  have S7 := Lib.hid (S6.out.below hb S6.out.lt)
  have F7 := Lib.hid (F6.out.below hb F6.out.lt)
  have Q7 := Lib.hid (Q6.out.below hb Q6.out.lt)
  have H7 := Lib.hid (H6.out.below hb H6.out.lt)
  have P7 := Lib.hid (P6.out.below hb P6.out.lt)
  have Y7 := Lib.hid (Y6.out.below hb Y6.out.lt)
  clear S6 F6 Q6 H6 P6 Y6
  have D7 := Lib.hid (rd_step D6.out hb)
  clear hb B6 K6 R6 cb0 cb1 D6
  have cb0 : u7.cell? ⟨w.heap.size + 1 + 1 + 1 + 1 + 1 + 1, 0, none⟩ = some (.slice (some ⟨w.heap.size, 0, none⟩) 4 4) := K7.out.cell 0
  have cb1 : u7.cell? ⟨w.heap.size + 1 + 1 + 1 + 1 + 1 + 1, 1, none⟩ = some (.slice (some ⟨w.heap.size + 1 + 1 + 1 + 1 + 1, 0, none⟩) 2 2) := K7.out.cell 1
  obtain ⟨i44, hi, hi0, hi1, hi2⟩ := info_parts info44
  have hbase : w.heap.size + 1 + 1 + 1 + 1 + 1 < u7.heap.size := Y7.out.lt
  have hbx : w.heap.size + 1 + 1 + 1 + 1 + 1 + 1 < u7.heap.size := K7.out.lt
  have hown : u7.ownsRow (w.heap.size + 1 + 1 + 1 + 1 + 1) 44 5 (.slice (some ⟨w.heap.size + 1 + 1 + 1 + 1 + 1, 0, none⟩) 2 2) 2 (two44 (w.heap.size + 1) (w.heap.size + 1 + 1) (w.heap.size + 1 + 1 + 1) (w.heap.size + 1 + 1 + 1 + 1)).toList := ⟨by simp [two44], .inr ⟨_, 2, _, rfl, Nat.le_refl _, Y7.out, by omega, by unfold maxLen; omega, by simp [two44], by simp [two44]⟩⟩
  have HOWN := Lib.hid hown
  clear hown R7
  go_upto_region 10 with (at_builtin; refine wpList_append_own_at _ rfl _ _ 23 rfl (w.heap.size + 1 + 1 + 1 + 1 + 1) 44 i44 (.agg #[.int .i64 0, .int .i64 0, .int .i64 0, .slice none 0 0, .slice none 0 0]) 5 72 Try.underlying23 hi hi0 hi1 hi2 rfl (by decide) (.slice (some ⟨w.heap.size + 1 + 1 + 1 + 1 + 1, 0, none⟩) 2 2) 2 _ rfl (((HOWN.out.alloc _).alloc _).alloc _) ⟨_, 0, none⟩ 1 1 (new44 u7.heap.size (u7.heap.size + 1)) rfl rfl (five_at (Blk.new' (by simp))) (one_five _ _) (by unfold maxLen; omega) (by omega) (by simp; omega) ?_; intro vv w8 hown8 hgrow8 _ hob8; obtain ⟨A3, c3, hvv⟩ := own_form hown8; subst hvv; have hk8 := blk_of_grown (((K7.out.alloc _).alloc _).alloc _) hgrow8 (fun e => (show w.heap.size + 1 + 1 + 1 + 1 + 1 ≠ w.heap.size + 1 + 1 + 1 + 1 + 1 + 1 by omega) (Option.some.inj e)); have ck8 := hk8.cell 1; have fk8 := hk8.frozen 1)
  obtain ⟨u8, hu⟩ : ∃ zz, zz = w8.setCell ⟨w.heap.size + 1 + 1 + 1 + 1 + 1 + 1, 1, none⟩ (.slice A3 3 c3) := ⟨_, rfl⟩
  rw [← hu]
  have hb7 : Below (w.heap.size + 1 + 1 + 1 + 1 + 1) u7 u8 := by
    rw [hu]
    have hx : Below (w.heap.size + 1 + 1 + 1 + 1 + 1) u7 (((u7.alloc (.cells #[.int .i64 1, .int .i64 2, .int .i64 3] 3)).alloc (.cells #[.int .i64 1] 3)).alloc (.cells #[.int .i64 3, .int .i64 5, .int .i64 0, .slice (some ⟨u7.heap.size, 0, none⟩) 3 3, .slice (some ⟨u7.heap.size + 1, 0, none⟩) 1 1] 44)) := (((Below.refl _ _).alloc (by omega) _).alloc (by simp; omega) _).alloc (by simp; omega) _
    exact (hx.grown hgrow8 (by simp; omega) (fun q e => Nat.le_of_eq (Option.some.inj e))).setCell (by simp) _
  have B8 : Hid (Below w.heap.size w u8) := Lib.hid (B7.out.trans (hb7.mono (by omega)))
  have S8 := Lib.hid (S7.out.below hb7 (by omega))
  have F8 := Lib.hid (F7.out.below hb7 (by omega))
  have Q8 := Lib.hid (Q7.out.below hb7 (by omega))
  have H8 := Lib.hid (H7.out.below hb7 (by omega))
  have P8 := Lib.hid (P7.out.below hb7 (by omega))
  have K8 : Hid (Blk u8 (w.heap.size + 1 + 1 + 1 + 1 + 1 + 1) 25 #[.slice (some ⟨w.heap.size, 0, none⟩) 4 4, .slice A3 3 c3]) := Lib.hid (hu ▸ hk8.set_ 1 _)
  have n6 : Blk u8 u7.heap.size 3 #[.int .i64 1, .int .i64 2, .int .i64 3] := hu ▸ (blk_of_grown (((Blk.new' rfl).alloc _).alloc _) hgrow8 (fun e => (show w.heap.size + 1 + 1 + 1 + 1 + 1 ≠ _ by omega) (Option.some.inj e))).far (by simp; omega) _
  have n7 : Blk u8 (u7.heap.size + 1) 3 #[.int .i64 1] := hu ▸ (blk_of_grown ((Blk.new' (by simp)).alloc _) hgrow8 (fun e => (show w.heap.size + 1 + 1 + 1 + 1 + 1 ≠ _ by omega) (Option.some.inj e))).far (by simp; omega) _
  have o8 : u8.ownsRow (w.heap.size + 1 + 1 + 1 + 1 + 1) 44 5 (.slice A3 3 c3) 3 ((two44 (w.heap.size + 1) (w.heap.size + 1 + 1) (w.heap.size + 1 + 1 + 1) (w.heap.size + 1 + 1 + 1 + 1)).toList ++ new44 u7.heap.size (u7.heap.size + 1)) := hu ▸ own_set_ne hown8 (fun e => by
    rcases hob8 with h | h
    · rw [h] at e; have := Option.some.inj e; simp at this
    · rw [h] at e; have := Option.some.inj e; simp at this; omega) _
  have R8 := Lib.hid (book_three S8.out F8.out Q8.out H8.out P8.out n6 n7 o8)
  have D8 : Hid (Rd u8 u8.heap.size AD 1 (fun j => .int .i64 ([(3 : Int)].getD j 0))) := Lib.hid (by
    intro h0
    obtain ⟨b, off, e, hbl, hc⟩ := D7.out h0
    subst e
    have hbo := OD.out b rfl
    refine ⟨b, off, rfl, ?_, fun j hj => ?_⟩
    · have := hb7.size; omega
    · rw [hu, World.cell?_setCell_other _ _ _ _ (fun e => by injection e with e _; omega)]
      rw [World.cell?_of_block (w := ((u7.alloc (.cells #[.int .i64 1, .int .i64 2, .int .i64 3] 3)).alloc (.cells #[.int .i64 1] 3)).alloc (.cells #[.int .i64 3, .int .i64 5, .int .i64 0, .slice (some ⟨u7.heap.size, 0, none⟩) 3 3, .slice (some ⟨u7.heap.size + 1, 0, none⟩) 1 1] 44)) (hgrow8.block b (by simp; omega) (fun e => (show b ≠ w.heap.size + 1 + 1 + 1 + 1 + 1 by omega) (Option.some.inj e)))]
      have h1 : Below u7.heap.size u7 (((u7.alloc (.cells #[.int .i64 1, .int .i64 2, .int .i64 3] 3)).alloc (.cells #[.int .i64 1] 3)).alloc (.cells #[.int .i64 3, .int .i64 5, .int .i64 0, .slice (some ⟨u7.heap.size, 0, none⟩) 3 3, .slice (some ⟨u7.heap.size + 1, 0, none⟩) 1 1] 44)) := (((Below.refl _ _).alloc (Nat.le_refl _) _).alloc (by simp) _).alloc (by simp; omega) _
      rw [h1.cell (p := ⟨b, off + j, none⟩) hbl]
      exact hc j hj)
  clear hu hb7 n6 n7 o8 hk8 hown8 hgrow8 hob8 HOWN hbase hbx
  clear S8 F8 Q8 H8 P8 S7 F7 Q7 H7 P7 Y7 K7 B7 D7 cb0 cb1
  have cb0 : u8.cell? ⟨w.heap.size + 1 + 1 + 1 + 1 + 1 + 1, 0, none⟩ = some (.slice (some ⟨w.heap.size, 0, none⟩) 4 4) := K8.out.cell 0
  have cb1 : u8.cell? ⟨w.heap.size + 1 + 1 + 1 + 1 + 1 + 1, 1, none⟩ = some (.slice A3 3 c3) := K8.out.cell 1
  go_wp2_with fail
  refine (sane_clash (by decide) u8 (.tuple #[.int .i64 1, .int .i64 2, .bool true, .int .i64 0]) (by rfl) R8.out).mono ?_
  rintro e u9 ⟨rfl, hb⟩
  have B9 := Lib.hid (B8.out.trans (hb.mono B8.out.size))
  have K9 := Lib.hid (K8.out.below hb K8.out.lt)
  have R9 := Lib.hid (RdK.step R8.out hb)
  skip
  have D9 := Lib.hid (rd_step D8.out hb)
  clear hb B8 K8 R8 cb0 cb1 D8
  clear K9 R9
  go_wp2_with fail
  refine (sane_binds0 u9).mono ?_
  rintro e u10 ⟨rfl, hb⟩
  have B10 := Lib.hid (B9.out.trans (hb.mono B9.out.size))
  have D10 := Lib.hid (rd_step D9.out hb)
  clear hb B9  D9
  go_wp2_with fail
  refine (sane_binds2 u10).mono ?_
  rintro e u11 ⟨rfl, hb⟩
  have B11 := Lib.hid (B10.out.trans (hb.mono B10.out.size))
  have D11 := Lib.hid (rd_step D10.out hb)
  clear hb B10  D10
  go_wp2_with fail
  refine (sane_dist0 u11).mono ?_
  rintro e u12 ⟨⟨AZ, kZ, cZ, rfl⟩, hb⟩
  have B12 := Lib.hid (B11.out.trans (hb.mono B11.out.size))
  have D12 := Lib.hid (rd_step D11.out hb)
  clear hb B11  D11
  go_wp2_with fail
  refine (sane_check0 u12).mono ?_
  rintro e u13 ⟨rfl, hb⟩
  have B13 := Lib.hid (B12.out.trans (hb.mono B12.out.size))
  have D13 := Lib.hid (rd_step D12.out hb)
  clear hb B12  D12
  go_wp2_with fail
  refine (sane_check1 u13).mono ?_
  rintro e u14 ⟨rfl, hb⟩
  have B14 := Lib.hid (B13.out.trans (hb.mono B13.out.size))
  have D14 := Lib.hid (rd_step D13.out hb)
  clear hb B13  D13
  have hmk : ∀ w, (Instr.makeSlice 22 (.int .i64 33) (.int .i64 33)).run Try.prog w = .ok (.slice (some ⟨w.heap.size, 0, none⟩) 33 33) (w.alloc (.cells (madeCells #[.int .i64 0] 33) 3)) := fun w => run_make_row' (P := Try.prog) 22 3 (.int .i64 0) 8 Try.underlying22 info3 rfl .i64 .i64 33 (by decide) (by decide) w
  go_wp2_with fail
  have hb2 : Below u14.heap.size u14 (u14.alloc (.cells (madeCells #[.int .i64 0] 33) 3)) := below_alloc _ _
  have hr2 : Rd (u14.alloc (.cells (madeCells #[.int .i64 0] 33) 3)) (u14.alloc (.cells (madeCells #[.int .i64 0] 33) 3)).heap.size (some ⟨u14.heap.size, 0, none⟩) 33 (fun j => .int .i64 (nI j)) := fun _ => ⟨_, _, rfl, by simp, fun j hj => by
    rw [Nat.zero_add, (Blk.new _ _ _).cell]
    exact made_at j hj⟩
  have HR2 := Lib.hid hr2
  clear hr2 hmk
  refine (sane_check2 _ _ HR2.out 33).mono ?_
  rintro e u15 ⟨rfl, hb⟩
  have hb3 := hb2.trans (hb.mono hb2.size)
  have B15 := Lib.hid (B14.out.trans (hb3.mono B14.out.size))
  have D15 := Lib.hid (rd_step D14.out hb3)
  clear hb hb2 hb3 HR2 B14 D14
  go_wp2_with fail
  have hb4 : Below u15.heap.size u15 (u15.alloc (.cells (rowL [3]).toArray 3)) := below_alloc _ _
  have hd4 := (D15.out.below hb4).mono (show u15.heap.size ≤ u15.heap.size + 1 by omega)
  refine (Same_21 AD (some ⟨u15.heap.size, 0, none⟩) 1 cD 1 (u15.heap.size + 1) (fun j => [(3 : Int)].getD j 0) _ (by decide) hd4 (new_rd u15 [3])).mono ?_
  rintro e u16 ⟨rfl, hq⟩
  have B16 := Lib.hid (B15.out.trans ((below_quiet hb4 hq).mono B15.out.size))
  clear hq hb4 hd4 D15 B15
  go_wp2_with fail
  go_ret
  exact ⟨rfl, B16.out⟩
end Go.Proofs.Ytbojjhdcmogjdaa
