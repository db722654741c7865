/- Contract of Clash. -/
import Derived.Test.YtbojjhdcmogjdaaEach
import Derived.Test.YtbojjhdcmogjdaaBinds
namespace Go.Proofs.Ytbojjhdcmogjdaa
open Go.RowKit

attribute [local go_sem] Oper.semAt_some

/-- the first pair, from i on, m first elements, of n, for which p holds -/
def prB (p : Nat → Nat → Bool) (n : Nat) : Nat → Nat → Option (Nat × Nat)
  | _, 0 => none
  | i, m + 1 => match fstB (p i) (i + 1) (n - (i + 1)) with
    | some j => some (i, j)
    | none => prB p n (i + 1) m
theorem prB_skip {p : Nat → Nat → Bool} {n : Nat} : ∀ (d i m : Nat), (∀ j, i ≤ j → j < i + d → fstB (p j) (j + 1) (n - (j + 1)) = none) → prB p n i (d + m) = prB p n (i + d) m
  | 0, i, m, _ => by simp
  | d + 1, i, m, h => by
    rw [show d + 1 + m = (d + m) + 1 by omega, prB, h i (by omega) (by omega)]
    simp only
    rw [prB_skip d (i + 1) m (fun j h1 h2 => h j (by omega) (by omega)), show i + 1 + d = i + (d + 1) by omega]
theorem prB_none {p : Nat → Nat → Bool} {n : Nat} (h : ∀ j, j < n → fstB (p j) (j + 1) (n - (j + 1)) = none) : prB p n 0 n = none := by
  have := prB_skip (p := p) (n := n) n 0 0 (fun j h1 h2 => h j (by omega))
  rw [Nat.add_zero] at this
  rw [this]; rfl
theorem prB_some {p : Nat → Nat → Bool} {n k j : Nat} (hk : k < n) (h : ∀ j, j < k → fstB (p j) (j + 1) (n - (j + 1)) = none) (hj : fstB (p k) (k + 1) (n - (k + 1)) = some j) : prB p n 0 n = some (k, j) := by
  have := prB_skip (p := p) (n := n) k 0 ((n - k - 1) + 1) (fun j h1 h2 => h j (by omega))
  rw [show k + ((n - k - 1) + 1) = n by omega, Nat.zero_add] at this
  rw [this, prB, hj]
/-- what Clash hands back -/
def clV (E : Int) (o : Option (Nat × Nat)) : Value := .tuple #[.int .i64 (if E = 0 then (((o.getD (0, 0)).1 : Nat) : Int) else 0), .int .i64 (if E = 0 then (((o.getD (0, 0)).2 : Nat) : Int) else 0), .bool (decide (E = 0) && o.isSome), .int .i64 E]
/-- do cases i and j clash, as bits -/
def clsP (wi : Nat → Int) (fn : Nat → Nat) (F : Nat → Nat → Int) (rn : Nat → Nat) (R : Nat → Nat → Int) (i j : Nat) : Bool :=
  claB (wi i) (wi j) (mask (F i) (fn i)) (mask (R i) (rn i)) (mask (F j) (fn j)) (mask (R j) (rn j))

theorem results_cells4 {fn : Func} {p q r s : Tmp} (h : fn.results = #[.cell p 3, .cell q 3, .cell r 4, .cell s 28]) (tmps : Array Value) (w : World) (ap aq ar az : Addr) (x y z v : Value)
    (hp : tmps.getD p undef = .pointer (some ap)) (hq : tmps.getD q undef = .pointer (some aq)) (hr : tmps.getD r undef = .pointer (some ar)) (hs : tmps.getD s undef = .pointer (some az))
    (cp : w.cell? ap = some x) (cq : w.cell? aq = some y) (cr : w.cell? ar = some z) (cs : w.cell? az = some v) :
    (results fn tmps).run Try.prog w = .ok (.tuple #[x, y, z, v]) w := by
  have hp' : tmps[p]?.getD undef = .pointer (some ap) := by simpa using hp
  have hq' : tmps[q]?.getD undef = .pointer (some aq) := by simpa using hq
  have hr' : tmps[r]?.getD undef = .pointer (some ar) := by simpa using hr
  have hs' : tmps[s]?.getD undef = .pointer (some az) := by simpa using hs
  simp [results, h, hp', hq', hr', hs', asAddr, loadVar, go_sem, cp, cq, cr, cs]

/-- the mark that a range over a function leaves -/
def markD (D : Nat) : Deferred := { target := .collected D, args := #[] }
theorem below_putObj {B : Nat} {w W : World} (h : Below B w W) {D : Nat} (hD : B ≤ D) (o : Obj) : Below B w (W.putObj D o) :=
  h.trans ⟨rfl, rfl, rfl, by simp [World.putObj], fun k hk => World.putObj_heap_other (by omega)⟩
theorem blk_putObj {W : World} {D g : Nat} {t : TypeId} {cs : Array Value} (h : Blk W g t cs) (hD : g ≠ D) (o : Obj) : Blk (W.putObj D o) g t cs := by
  unfold Blk at h ⊢
  rw [World.putObj_heap_other hD]
  exact h
theorem bodyPostM_ret {F : Fence} {n : Nat} {P : Program} {fn : Func} {R : Ending → World → Prop} {a : Act} {w : World} {v : Value}
    (hr : (results fn a.tmps).run P w = .ok v w) (hd : a.defers = []) (hR : R (.returned v) w) : bodyPostM F n P fn R .ret a w := by
  show LeavesInM F n P fn a.tmps R a.defers .returning w
  rw [hd]
  exact ⟨_, hr, hR⟩
/-- leaving a function behind one range over a function in whose body no call was deferred -/
theorem leaves_one {F : Fence} {m : Nat} {P : Program} {fn : Func} {tmps : Array Value} {R : Ending → World → Prop} {v : Value} {D : Nat} {W : World}
    (hD : W.heap[D]? = some (.deferred (some []))) (hres : (results fn tmps).run P (W.putObj D (.deferred none)) = .ok v (W.putObj D (.deferred none))) (hR : R (.returned v) (W.putObj D (.deferred none))) : LeavesInM F m P fn tmps R [markD D] .returning W :=
  ⟨by simp, .inl ⟨D, _, rfl, run_takeDeferred hD, ⟨_, hres, hR⟩⟩⟩
theorem ownFrom_blocks {β : Type} {B : Nat} {I : β → World → Prop} (h : ∀ s X Y, I s X → Below B X Y → I s Y) (hsz : ∀ s X, I s X → B ≤ X.heap.size) : OwnFrom B I :=
  fun s X Y _ hs hg hr => h s X Y hs ⟨hg.os, hg.tape, hg.output, hg.size, fun k hk => hg.block k (by have := hsz s X hs; omega) (fun e => by have := (hr k e.symm).1; omega)⟩

theorem blk_of_grown_own {W W' : World} {row : Option Nat} {g : Nat} {t : TypeId} {cs : Array Value} (h : Blk W g t cs) (hg : W.grownBy W' row) (hr : ∀ r, row = some r → ∃ z : Obj, W.heap[r]? = some z ∧ z.isCells = false) : Blk W' g t cs :=
  (hg.block g h.lt (fun e => by
    obtain ⟨o, ho, hc⟩ := hr g e.symm
    rw [show W.heap[g]? = _ from h] at ho
    cases ho
    cases hc)).trans h
/-- between two rounds: none of those seen clashes with a later one -/
def CI (p : Nat → Nat → Bool) (n : Nat) (U : World) (pre : List Nat) (W : World) : Prop := (∀ k ∈ pre, fstB (p (ix n k)) (ix n k + 1) (n - (ix n k + 1)) = none) ∧ Below U.heap.size U W
/-- left from within: the last one clashes -/
def CX (p : Nat → Nat → Bool) (n : Nat) (w U : World) (c : Code) (pre : List Nat) (W : World) : Prop :=
  c = .ret ∧ ∃ front k j, pre = front ++ [k] ∧ (∀ q ∈ front, fstB (p (ix n q)) (ix n q + 1) (n - (ix n q + 1)) = none) ∧ fstB (p (ix n k)) (ix n k + 1) (n - (ix n k + 1)) = some j ∧
    Blk W (w.heap.size + 1) 3 #[.int .i64 (ix n k : Nat)] ∧ Blk W (w.heap.size + 1 + 1) 3 #[.int .i64 (j : Nat)] ∧ Blk W (w.heap.size + 1 + 1 + 1) 4 #[.bool true] ∧ Blk W (w.heap.size + 1 + 1 + 1 + 1) 28 #[.int .i64 0] ∧
    Below w.heap.size w W ∧ U.heap.size ≤ W.heap.size
theorem CI.below {p : Nat → Nat → Bool} {n : Nat} {U : World} {pre : List Nat} {X Y : World} (h : CI p n U pre X) (hb : Below U.heap.size X Y) : CI p n U pre Y := ⟨h.1, h.2.trans hb⟩
theorem CX.below {p : Nat → Nat → Bool} {n : Nat} {w U : World} {c : Code} {pre : List Nat} {X Y : World} (hU : w.heap.size + 1 + 1 + 1 + 1 < U.heap.size) (h : CX p n w U c pre X) (hb : Below U.heap.size X Y) : CX p n w U c pre Y := by
  obtain ⟨h0, front, k, j, h1, h2, h3, h4, h5, h6, h7, h8, h9⟩ := h
  exact ⟨h0, front, k, j, h1, h2, h3, h4.below hb (by omega), h5.below hb (by omega), h6.below hb (by omega), h7.below hb (by omega), h8.trans (hb.mono (by omega)), Nat.le_trans h9 hb.size⟩
theorem keeps_below {W W1 : World} (hb : Below W.heap.size W W1) : KeepsOthers W W1 := ⟨hb.size, fun k _ hk _ => (hb.block k (Array.getElem?_eq_some_iff.1 hk).1).trans hk⟩

set_option maxRecDepth 100000 in
set_option maxHeartbeats 4000000 in
theorem Clash_11 {SA CA : Option Addr} {sn sc n cc : Nat} {S no hr wi : Nat → Int} {FA RA : Nat → Option Addr} {fn fc rn rc : Nat → Nat} {F R : Nat → Nat → Int} (B : Nat) (w : World) (hs : SmK sn n fn rn) (hB : B ≤ w.heap.size) (hr0 : RdK w B SA sn S CA n no hr wi FA fn fc F RA rn rc R) :
    Calls Try.prog 11 #[(.agg #[.slice SA sn sc, .slice CA n cc])] w fun e w' => e = .returned (clV (chkE S sn n no hr wi fn F rn R) (prB (clsP wi fn F rn R) n 0 n)) ∧ Below w.heap.size w w' := by
  obtain ⟨MF, hMF⟩ : ∃ MF : Nat → Nat, MF = fun j => mask (F j) (fn j) := ⟨_, rfl⟩
  obtain ⟨MR, hMR⟩ : ∃ MR : Nat → Nat, MR = fun j => mask (R j) (rn j) := ⟨_, rfl⟩
  have HX : Hid (∀ W, Below w.heap.size w W → Calls Try.prog 25 #[(.agg #[.slice SA sn sc, .slice CA n cc])] W fun e w' => ReadR W.heap.size (chkE S sn n no hr wi fn F rn R) (fav S 0 sn) (fav S 1 sn) n (d3 wi MF MR) e w' ∧ Below W.heap.size W w') := Lib.hid fun W h => by
    have h1 := read_25 (sc := sc) (cc := cc) B W hs (Nat.le_trans hB h.size) (hr0.below (h.mono hB))
    rw [dcc_d3, ← hMF, ← hMR] at h1
    exact h1
  have HP : Hid ((chkE S sn n no hr wi fn F rn R) = 0 → n ≤ 64 ∧ ∀ i j, i < n → j < n → ∀ W, Calls Try.prog 28 #[.agg #[.int .i64 (wi i), .int .u64 (MF i), .int .u64 (MR i)], .agg #[.int .i64 (wi j), .int .u64 (MF j), .int .u64 (MR j)]] W fun e w' => e = .returned (.bool (clsP wi fn F rn R i j)) ∧ Below W.heap.size W w') := Lib.hid fun h => by
    obtain ⟨h4, h5, _, h6⟩ := chk_zero h
    refine ⟨h5, fun i j hi hj W => ?_⟩
    obtain ⟨_, _, h8, h9, _⟩ := casB_facts (h6 i hi)
    obtain ⟨_, _, h10, h11, _⟩ := casB_facts (h6 j hj)
    simp only [hMF, hMR]
    exact clash_28 (wi i) (wi j) _ _ _ _ W (mask_small h4 h8) (mask_small h4 h9) (mask_small h4 h10) (mask_small h4 h11)
  clear hs hr0 hMF hMR
  generalize (chkE S sn n no hr wi fn F rn R) = E at HX HP ⊢
  generalize clsP wi fn F rn R = p at HP ⊢
  generalize fav S 0 sn = f0 at HX
  generalize fav S 1 sn = f1 at HX
  obtain ⟨o, ho⟩ : ∃ o, o = prB p n 0 n := ⟨_, rfl⟩
  rw [← ho]
  have HO := Lib.hid ho
  clear ho
  refine (callsIn_wide (n := 3)).1 (callsIn_of_wp_marks Try.func11 rfl trivial (wpIn_wide.2 ?_))
  simp only [Try.ntmps11, List.size_toArray, List.length_cons, List.length_nil, Nat.reduceAdd, Nat.reduceSub, Array.replicate_succ, Array.replicate_zero, List.push_toArray, List.append_toArray, List.nil_append, List.cons_append]
  go_upto_region 1 with fail
  obtain ⟨w0, hw0⟩ : ∃ zz, zz = ((((w.alloc (.cells #[.slice SA sn sc, .slice CA n cc] 25)).alloc (.cells #[.int .i64 0] 3)).alloc (.cells #[.int .i64 0] 3)).alloc (.cells #[.bool false] 4)).alloc (.cells #[.int .i64 0] 28) := ⟨_, rfl⟩
  have HK0 : Hid (Blk w0 w.heap.size 25 #[.slice SA sn sc, .slice CA n cc]) := Lib.hid (hw0 ▸ ((((Blk.new _ _ _).alloc _).alloc _).alloc _).alloc _)
  have HI0 : Hid (Blk w0 (w.heap.size + 1) 3 #[.int .i64 0]) := Lib.hid (hw0 ▸ (((Blk.new' (by simp)).alloc _).alloc _).alloc _)
  have HJ0 : Hid (Blk w0 (w.heap.size + 1 + 1) 3 #[.int .i64 0]) := Lib.hid (hw0 ▸ ((Blk.new' (by simp)).alloc _).alloc _)
  have HO0 : Hid (Blk w0 (w.heap.size + 1 + 1 + 1) 4 #[.bool false]) := Lib.hid (hw0 ▸ (Blk.new' (by simp)).alloc _)
  have HE0 : Hid (Blk w0 (w.heap.size + 1 + 1 + 1 + 1) 28 #[.int .i64 0]) := Lib.hid (hw0 ▸ Blk.new' (by simp))
  have HB0 : Hid (Below w.heap.size w w0) := Lib.hid (by rw [hw0]; (repeat (first | exact Below.refl _ _ | exact below_alloc _ _ | refine Below.alloc ?_ (by simp; omega) _ | refine Below.alloc ?_ (by simp) _)))
  rw [← hw0]
  clear hw0
  have hs0 := HE0.out.lt
  have hz0 := HB0.out.size
  have cb0 : w0.cell? ⟨w.heap.size, 0, none⟩ = some (.slice SA sn sc) := HK0.out.cell 0
  have cb1 : w0.cell? ⟨w.heap.size, 1, none⟩ = some (.slice CA n cc) := HK0.out.cell 1
  go_wp2_with fail
  refine (HX.out _ HB0.out).mono ?_
  rintro e w1 ⟨⟨a, b, A1, m1, c1, rfl, hrd⟩, hb⟩
  have HRD := Lib.hid hrd
  have HI1 := Lib.hid (HI0.out.below hb (by omega))
  have HJ1 := Lib.hid (HJ0.out.below hb (by omega))
  have HO1 := Lib.hid (HO0.out.below hb (by omega))
  have HE1 := Lib.hid (HE0.out.below hb (by omega))
  have HB1 := Lib.hid (HB0.out.trans (hb.mono hz0))
  have hzb := hb.size
  clear hrd hb HK0 HI0 HJ0 HO0 HE0 HB0 cb0 cb1
  have hs1 := HE1.out.lt
  have hz1 := HB1.out.size
  have fe : w1.frozen? ⟨w.heap.size + 1 + 1 + 1 + 1, 0, none⟩ = false := HE1.out.frozen 0
  have ce : w1.cell? ⟨w.heap.size + 1 + 1 + 1 + 1, 0, none⟩ = some (.int .i64 0) := HE1.out.cell 0
  go_upto_region 2 with fail
  clear fe ce
  obtain ⟨w2, hw2⟩ : ∃ zz, zz = (w1.setCell ⟨w.heap.size + 1 + 1 + 1 + 1, 0, none⟩ (.int .i64 E)).alloc (.cells #[.int .u64 (a : Nat), .int .u64 (b : Nat), .slice A1 m1 c1] 52) := ⟨_, rfl⟩
  have HC2 : Hid (Blk w2 w1.heap.size 52 #[.int .u64 (a : Nat), .int .u64 (b : Nat), .slice A1 m1 c1]) := Lib.hid (hw2 ▸ Blk.new' (by simp [World.setCell]))
  have HI2 : Hid (Blk w2 (w.heap.size + 1) 3 #[.int .i64 0]) := Lib.hid (hw2 ▸ (HI1.out.far (by simp <;> omega) _).alloc _)
  have HJ2 : Hid (Blk w2 (w.heap.size + 1 + 1) 3 #[.int .i64 0]) := Lib.hid (hw2 ▸ (HJ1.out.far (by simp <;> omega) _).alloc _)
  have HO2 : Hid (Blk w2 (w.heap.size + 1 + 1 + 1) 4 #[.bool false]) := Lib.hid (hw2 ▸ (HO1.out.far (by simp <;> omega) _).alloc _)
  have HE2 : Hid (Blk w2 (w.heap.size + 1 + 1 + 1 + 1) 28 #[.int .i64 E]) := Lib.hid (hw2 ▸ (HE1.out.set_ 0 _).alloc _)
  have HB2 : Hid (Below w.heap.size w w2) := Lib.hid (hw2 ▸ (HB1.out.setCell (by simp; omega) _).alloc (by simpa [World.setCell] using hz1) _)
  have HRD2 : Hid (E = 0 → a = f0 ∧ b = f1 ∧ m1 = n ∧ Rd w2 w1.heap.size A1 (n * 3) (d3 wi MF MR)) := Lib.hid fun h => by
    obtain ⟨e1, e2, e3, h4, h5⟩ := HRD.out h
    exact ⟨e1, e2, e3, hw2 ▸ (rd_set h4 h5 (by simp; omega) _).alloc (by simp [World.setCell]) _⟩
  rw [← hw2]
  clear hw2 HRD HI1 HJ1 HO1 HE1 HB1
  have hs2 := HC2.out.lt
  have hz2 := HB2.out.size
  have ce : w2.cell? ⟨w.heap.size + 1 + 1 + 1 + 1, 0, none⟩ = some (.int .i64 E) := HE2.out.cell 0
  by_cases hE : E = 0
  · obtain ⟨rfl, rfl, rfl, hrd⟩ := HRD2.out hE
    obtain ⟨h64, hcall⟩ := HP.out hE
    have HCALL := Lib.hid hcall
    have HR9 := Lib.hid hrd
    subst hE
    clear hrd hcall HX HP HRD2
    have cc0 : w2.cell? ⟨w1.heap.size, 0, none⟩ = some (.int .u64 (a : Nat)) := HC2.out.cell 0
    have cc1 : w2.cell? ⟨w1.heap.size, 1, none⟩ = some (.int .u64 (b : Nat)) := HC2.out.cell 1
    have cc2 : w2.cell? ⟨w1.heap.size, 2, none⟩ = some (.slice A1 m1 c1) := HC2.out.cell 2
    go_wp2_with fail
    refine (each_26 _ _ _ _).mono ?_
    rintro e U ⟨rfl, hU⟩
    have hbU : Below w2.heap.size w2 U := hU ▸ below_alloc _ _
    have HG : Hid (Blk U w2.heap.size 52 #[.int .u64 (a : Nat), .int .u64 (b : Nat), .slice A1 m1 c1]) := Lib.hid (hU ▸ Blk.new _ _ _)
    have HCU := Lib.hid (HC2.out.below hbU HC2.out.lt)
    have HIU := Lib.hid (HI2.out.below hbU HI2.out.lt)
    have HJU := Lib.hid (HJ2.out.below hbU HJ2.out.lt)
    have HOU := Lib.hid (HO2.out.below hbU HO2.out.lt)
    have HEU := Lib.hid (HE2.out.below hbU HE2.out.lt)
    have HBU := Lib.hid (HB2.out.trans (hbU.mono hz2))
    have HRU := Lib.hid (HR9.out.below (hbU.mono (show w1.heap.size ≤ w2.heap.size by omega)))
    have hzU := HG.out.lt
    clear hU hbU HC2 HI2 HJ2 HO2 HE2 HB2 HR9 cc0 cc1 cc2 ce
    go_wp2_with fail
    refine (wpIn_wide (n := 3)).1 ?_
    refine wpIn_rangeFunc_ownH (F := Fence.wide) (n := 3) rfl (by omega) (gf := 42) (lb := #[.pointer (some ⟨w2.heap.size, 0, none⟩)]) rfl trivial (enters_of Try.func42 (by kernel_rfl) rfl)
      (each_stops 2 (by omega) w2.heap.size U.heap.size m1 c1 w1.heap.size A1 wi MF MR (.int .u64 (a : Nat)) (.int .u64 (b : Nat)) h64 U (Nat.le_refl _) HG.out (by omega) HRU.out)
      (fun h k => h.trans k) ?hKb (Below.refl _ _) (fun _ => rfl)
      (CI p m1 U) (CX p m1 w U) (ownFrom_blocks (fun s A B h hb => h.below hb) (fun s A h => h.2.size)) (fun c => ownFrom_blocks (fun s A B h hb => CX.below (by omega) h hb) (fun s A h => h.2.choose_spec.choose_spec.choose_spec.2.2.2.2.2.2.2.2)) ?h0
      (fun x a' W' => ∃ Bx, U.heap.size ≤ Bx ∧ Blk W' Bx 59 #[.int .i64 (wi (ix m1 x)), .int .u64 (MF (ix m1 x) : Nat), .int .u64 (MR (ix m1 x) : Nat)] ∧ a' = { tmps := #[.agg #[.slice SA sn sc, .slice CA m1 cc], .pointer (some ⟨w.heap.size, 0, none⟩), .pointer (some ⟨w.heap.size + 1, 0, none⟩), .pointer (some ⟨w.heap.size + 1 + 1, 0, none⟩), .pointer (some ⟨w.heap.size + 1 + 1 + 1, 0, none⟩), .pointer (some ⟨w.heap.size + 1 + 1 + 1 + 1, 0, none⟩), .pointer (some ⟨w1.heap.size, 0, none⟩), .int .i64 (ix m1 x : Nat), .pointer (some ⟨Bx, 0, none⟩), undef, undef, .tuple #[.agg #[.int .u64 (a : Nat), .int .u64 (b : Nat), .slice A1 m1 c1], .int .i64 0], .agg #[.slice SA sn sc, .slice CA m1 cc], .tuple #[.agg #[.int .u64 (a : Nat), .int .u64 (b : Nat), .slice A1 m1 c1], .int .i64 0], .agg #[.int .u64 (a : Nat), .int .u64 (b : Nat), .slice A1 m1 c1], .int .i64 0, .int .i64 0, .bool false, undef, .agg #[.int .u64 (a : Nat), .int .u64 (b : Nat), .slice A1 m1 c1], .func (.func 42) #[] #[.pointer (some ⟨w2.heap.size, 0, none⟩)], .int .i64 (ix m1 x : Nat), .agg #[.int .i64 (wi (ix m1 x)), .int .u64 (MF (ix m1 x) : Nat), .int .u64 (MR (ix m1 x) : Nat)], undef, undef, undef, undef, undef, undef, undef, undef, undef, undef, undef, undef, undef], defers := [] })
      (fun x a' s A B row hs hg hr => by obtain ⟨Bx, h1, h2, h3⟩ := hs; exact ⟨Bx, h1, blk_of_grown_own h2 hg (fun r e => (hr r e).2), h3⟩) ?assign ?body ?done ?stop
    case hKb =>
      intro W' l o o' hl ho hc _
      exact below_putObj (Below.refl _ _) (by omega) _
    case h0 => exact ⟨fun k hk => (by cases hk), Below.refl _ _⟩
    case assign =>
      intro l pre x W' K hI hK
      have hsI := hI.2.size
      dsimp only [dcv]
      gi_wp2
      exact hK _ _ ((KeepsOthers.alloc _ _).from _) ((Below.refl _ _).alloc hsI _) (hI.below ((Below.refl _ _).alloc hsI _)) ⟨W'.heap.size, hsI, Blk.new _ _ _, rfl⟩
    case body =>
      rintro l pre x a' W' hl _ hI ⟨Bx, hBx, hbx, rfl⟩ hlen
      have hq := ix_lt (n := m1) (k := x) (by omega)
      obtain ⟨q, hqe⟩ : ∃ q, ix m1 x = q := ⟨_, rfl⟩
      rw [hqe] at hbx hq ⊢
      have HQE := Lib.hid hqe
      have HI := Lib.hid hI
      have hq' : (q : Int) < m1 := by omega
      have h64' : (m1 : Int) ≤ 64 := by omega
      have hsI := hI.2.size
      have cc0 : W'.cell? ⟨w1.heap.size, 0, none⟩ = some (.int .u64 (a : Nat)) := (HCU.out.below hI.2 HCU.out.lt).cell 0
      have cc1 : W'.cell? ⟨w1.heap.size, 1, none⟩ = some (.int .u64 (b : Nat)) := (HCU.out.below hI.2 HCU.out.lt).cell 1
      have cc2 : W'.cell? ⟨w1.heap.size, 2, none⟩ = some (.slice A1 m1 c1) := (HCU.out.below hI.2 HCU.out.lt).cell 2
      have cx0 : W'.cell? ⟨Bx, 0, none⟩ = some (.int .i64 (wi q)) := hbx.cell 0
      have cx1 : W'.cell? ⟨Bx, 1, none⟩ = some (.int .u64 (MF q : Nat)) := hbx.cell 1
      have cx2 : W'.cell? ⟨Bx, 2, none⟩ = some (.int .u64 (MR q : Nat)) := hbx.cell 2
      have HF : Hid (Calls Try.prog 27 #[.slice A1 m1 c1, .int .i64 ((q : Int) + 1), .func (.func 28) #[.agg #[.int .i64 (wi q), .int .u64 (MF q : Nat), .int .u64 (MR q : Nat)]] #[]] W' fun e w' => e = .returned (fstV (fstB (p q) (q + 1) (m1 - (q + 1)))) ∧ Below W'.heap.size W' w') := Lib.hid
        (first_clash A1 m1 c1 w1.heap.size (q + 1) wi MF MR (wi q) (MF q) (MR q) (p q) W' (by omega) (by omega) (by omega) (HRU.out.below (hI.2.mono (by omega))) (fun j hj W hW => HCALL.out q j hq hj W))
      obtain ⟨r, hr⟩ : ∃ r, r = fstB (p q) (q + 1) (m1 - (q + 1)) := ⟨_, rfl⟩
      rw [← hr] at HF
      have HRR := Lib.hid hr
      have hwq : IntKind.i64.wrap ((q : Int) + 1) = (q : Int) + 1 := IntWalk.i64_in _ ⟨by omega, by omega⟩
      clear hr hI hbx hqe
      unfold fstV at HF
      gi_wp2
      refine ⟨trivial, CallsIn.inRound l (callsIn_wide.2 (HF.out.mono ?_))⟩
      rintro e W1 ⟨rfl, hb1⟩
      have HK1 : Hid (KeepsOthers W' W1) := Lib.hid (keeps_below hb1)
      have HI1 := Lib.hid (HI.out.below (hb1.mono hsI))
      have HB1 := Lib.hid (hb1.mono hsI)
      have hz1' := hb1.size
      clear hb1 cc0 cc1 cc2 cx0 cx1 cx2 HF
      cases r with
      | none =>
        gi_wp2
        refine ⟨HK1.out.from _, HB1.out, ?_, HI1.out.2⟩
        intro k hk
        rcases List.mem_append.1 hk with h | h
        · exact HI1.out.1 k h
        · obtain rfl : k = x := by simpa using h
          rw [HQE.out]
          exact HRR.out.symm
      | some j =>
        have HIW := Lib.hid (HIU.out.below HI1.out.2 HIU.out.lt)
        have HJW := Lib.hid (HJU.out.below HI1.out.2 HJU.out.lt)
        have HOW := Lib.hid (HOU.out.below HI1.out.2 HOU.out.lt)
        have HEW := Lib.hid (HEU.out.below HI1.out.2 HEU.out.lt)
        have HBW := Lib.hid (HBU.out.trans (HI1.out.2.mono (by omega)))
        have ci : W1.cell? ⟨w.heap.size + 1, 0, none⟩ = some (.int .i64 0) := HIW.out.cell 0
        have cj : W1.cell? ⟨w.heap.size + 1 + 1, 0, none⟩ = some (.int .i64 0) := HJW.out.cell 0
        have co : W1.cell? ⟨w.heap.size + 1 + 1 + 1, 0, none⟩ = some (.bool false) := HOW.out.cell 0
        have ce : W1.cell? ⟨w.heap.size + 1 + 1 + 1 + 1, 0, none⟩ = some (.int .i64 0) := HEW.out.cell 0
        have fi := HIW.out.frozen 0
        have fj := HJW.out.frozen 0
        have fo := HOW.out.frozen 0
        have fe := HEW.out.frozen 0
        gi_wp2
        refine ⟨((((HK1.out.trans (KeepsOthers.setCell _ _ _)).trans (KeepsOthers.setCell _ _ _)).trans (KeepsOthers.setCell _ _ _)).trans (KeepsOthers.setCell _ _ _)).from _, rfl, pre, x, j, rfl, HI1.out.1, ?_, ?_, ?_, ?_, ?_, ?_, ?_⟩
        · rw [HQE.out]; exact HRR.out.symm
        · rw [HQE.out]; exact (((HIW.out.set_ 0 (.int .i64 (q : Nat))).far (p := ⟨w.heap.size + 1 + 1, 0, none⟩) (by simp <;> omega) _).far (p := ⟨w.heap.size + 1 + 1 + 1, 0, none⟩) (by simp <;> omega) _).far (p := ⟨w.heap.size + 1 + 1 + 1 + 1, 0, none⟩) (by simp <;> omega) _
        · exact (((HJW.out.far (p := ⟨w.heap.size + 1, 0, none⟩) (by simp <;> omega) (.int .i64 (q : Nat))).set_ 0 (.int .i64 (j : Nat))).far (p := ⟨w.heap.size + 1 + 1 + 1, 0, none⟩) (by simp <;> omega) _).far (p := ⟨w.heap.size + 1 + 1 + 1 + 1, 0, none⟩) (by simp <;> omega) _
        · exact (((HOW.out.far (p := ⟨w.heap.size + 1, 0, none⟩) (by simp <;> omega) (.int .i64 (q : Nat))).far (p := ⟨w.heap.size + 1 + 1, 0, none⟩) (by simp <;> omega) (.int .i64 (j : Nat))).set_ 0 (.bool true)).far (p := ⟨w.heap.size + 1 + 1 + 1 + 1, 0, none⟩) (by simp <;> omega) _
        · exact (((HEW.out.far (p := ⟨w.heap.size + 1, 0, none⟩) (by simp <;> omega) (.int .i64 (q : Nat))).far (p := ⟨w.heap.size + 1 + 1, 0, none⟩) (by simp <;> omega) (.int .i64 (j : Nat))).far (p := ⟨w.heap.size + 1 + 1 + 1, 0, none⟩) (by simp <;> omega) (.bool true)).set_ 0 (.int .i64 0)
        · exact (((HBW.out.setCell (p := ⟨w.heap.size + 1, 0, none⟩) (by simp <;> omega) _).setCell (p := ⟨w.heap.size + 1 + 1, 0, none⟩) (by simp <;> omega) _).setCell (p := ⟨w.heap.size + 1 + 1 + 1, 0, none⟩) (by simp <;> omega) _).setCell (p := ⟨w.heap.size + 1 + 1 + 1 + 1, 0, none⟩) (by simp <;> omega) _
        · simp [World.setCell]; omega
    case done =>
      rintro D ys W' hD rfl hI hKD
      have HIW := Lib.hid (HIU.out.below hI.2 HIU.out.lt)
      have HJW := Lib.hid (HJU.out.below hI.2 HJU.out.lt)
      have HOW := Lib.hid (HOU.out.below hI.2 HOU.out.lt)
      have HEW := Lib.hid (HEU.out.below hI.2 HEU.out.lt)
      have HBW := Lib.hid (HBU.out.trans (hI.2.mono (by omega)))
      have HN : Hid (o = none) := Lib.hid (HO.out.trans (prB_none fun j hj => by
        have := hI.1 j (by simp [ups, hj])
        rwa [ix_of hj] at this))
      have HKD := Lib.hid hKD
      clear hI hKD
      have ci : W'.cell? ⟨w.heap.size + 1, 0, none⟩ = some (.int .i64 0) := HIW.out.cell 0
      have cj : W'.cell? ⟨w.heap.size + 1 + 1, 0, none⟩ = some (.int .i64 0) := HJW.out.cell 0
      have co : W'.cell? ⟨w.heap.size + 1 + 1 + 1, 0, none⟩ = some (.bool false) := HOW.out.cell 0
      have ce : W'.cell? ⟨w.heap.size + 1 + 1 + 1 + 1, 0, none⟩ = some (.int .i64 0) := HEW.out.cell 0
      have fi := HIW.out.frozen 0
      have fj := HJW.out.frozen 0
      have fo := HOW.out.frozen 0
      have fe := HEW.out.frozen 0
      go_wp2_with fail
      have bi := (((HIW.out.set_ 0 (.int .i64 0)).far (p := ⟨w.heap.size + 1 + 1, 0, none⟩) (by simp <;> omega) (.int .i64 0)).far (p := ⟨w.heap.size + 1 + 1 + 1, 0, none⟩) (by simp <;> omega) (.bool false)).far (p := ⟨w.heap.size + 1 + 1 + 1 + 1, 0, none⟩) (by simp <;> omega) (.int .i64 0)
      have bj := (((HJW.out.far (p := ⟨w.heap.size + 1, 0, none⟩) (by simp <;> omega) (.int .i64 0)).set_ 0 (.int .i64 0)).far (p := ⟨w.heap.size + 1 + 1 + 1, 0, none⟩) (by simp <;> omega) (.bool false)).far (p := ⟨w.heap.size + 1 + 1 + 1 + 1, 0, none⟩) (by simp <;> omega) (.int .i64 0)
      have bo := (((HOW.out.far (p := ⟨w.heap.size + 1, 0, none⟩) (by simp <;> omega) (.int .i64 0)).far (p := ⟨w.heap.size + 1 + 1, 0, none⟩) (by simp <;> omega) (.int .i64 0)).set_ 0 (.bool false)).far (p := ⟨w.heap.size + 1 + 1 + 1 + 1, 0, none⟩) (by simp <;> omega) (.int .i64 0)
      have be := (((HEW.out.far (p := ⟨w.heap.size + 1, 0, none⟩) (by simp <;> omega) (.int .i64 0)).far (p := ⟨w.heap.size + 1 + 1, 0, none⟩) (by simp <;> omega) (.int .i64 0)).far (p := ⟨w.heap.size + 1 + 1 + 1, 0, none⟩) (by simp <;> omega) (.bool false)).set_ 0 (.int .i64 0)
      refine leaves_one (v := .tuple #[.int .i64 0, .int .i64 0, .bool false, .int .i64 0]) ?_ (results_cells4 rfl _ _ _ _ _ _ _ _ _ _ rfl rfl rfl rfl ((blk_putObj bi (by omega) _).cell 0) ((blk_putObj bj (by omega) _).cell 0) ((blk_putObj bo (by omega) _).cell 0) ((blk_putObj be (by omega) _).cell 0)) ?_
      · rw [Below.heap_setCell _ _ _ _ (by simp; omega), Below.heap_setCell _ _ _ _ (by simp; omega), Below.heap_setCell _ _ _ _ (by simp; omega), Below.heap_setCell _ _ _ _ (by simp; omega)]
        exact HKD.out
      · exact ⟨ret_val (by rw [HN.out]; rfl), below_putObj ((((HBW.out.setCell (p := ⟨w.heap.size + 1, 0, none⟩) (by simp <;> omega) _).setCell (p := ⟨w.heap.size + 1 + 1, 0, none⟩) (by simp <;> omega) _).setCell (p := ⟨w.heap.size + 1 + 1 + 1, 0, none⟩) (by simp <;> omega) _).setCell (p := ⟨w.heap.size + 1 + 1 + 1 + 1, 0, none⟩) (by simp <;> omega) _) (by omega) _⟩
    case stop =>
      rintro D c' pre W' hD hSp ⟨rfl, front, k, j, h1, h2, h3, h4, h5, h6, h7, h8, h9⟩ hKD
      obtain ⟨k', hk', rfl⟩ := hSp
      obtain ⟨rfl, hkk⟩ := List.append_inj' h1 rfl
      obtain rfl : k' = k := by simpa using hkk
      rw [ix_of hk'] at h3 h4
      have HS : Hid (o = some (k', j)) := Lib.hid (HO.out.trans (prB_some hk' (fun q hq => by
        have := h2 q (by simp [ups, hq])
        rwa [ix_of (by omega)] at this) h3))
      gi_wp2
      refine leaves_one (v := .tuple #[.int .i64 (k' : Nat), .int .i64 (j : Nat), .bool true, .int .i64 0]) hKD (results_cells4 rfl _ _ _ _ _ _ _ _ _ _ rfl rfl rfl rfl ((blk_putObj h4 (by omega) _).cell 0) ((blk_putObj h5 (by omega) _).cell 0) ((blk_putObj h6 (by omega) _).cell 0) ((blk_putObj h7 (by omega) _).cell 0)) ?_
      exact ⟨ret_val (by rw [HS.out]; rfl), below_putObj h8 (by omega) _⟩
  · have HV : Hid (∀ o, clV E o = .tuple #[.int .i64 0, .int .i64 0, .bool false, .int .i64 E]) := Lib.hid fun o => by simp [clV, hE]
    have hE' : (E != 0) = true := by simpa using hE
    clear hE
    have ci : w2.cell? ⟨w.heap.size + 1, 0, none⟩ = some (.int .i64 0) := HI2.out.cell 0
    have cj : w2.cell? ⟨w.heap.size + 1 + 1, 0, none⟩ = some (.int .i64 0) := HJ2.out.cell 0
    have co : w2.cell? ⟨w.heap.size + 1 + 1 + 1, 0, none⟩ = some (.bool false) := HO2.out.cell 0
    have fi := HI2.out.frozen 0
    have fj := HJ2.out.frozen 0
    have fo := HO2.out.frozen 0
    have fe := HE2.out.frozen 0
    go_upto_region 3 with fail
    go_region
    go_wp2_with fail
    have bi := ((((HI2.out.set_ 0 (.int .i64 0)).far (p := ⟨w.heap.size + 1 + 1, 0, none⟩) (by simp <;> omega) (.int .i64 0)).far (p := ⟨w.heap.size + 1 + 1 + 1, 0, none⟩) (by simp <;> omega) (.bool false)).far (p := ⟨w.heap.size + 1 + 1 + 1 + 1, 0, none⟩) (by simp <;> omega) (.int .i64 E)).drewN 1
    have bj := ((((HJ2.out.far (p := ⟨w.heap.size + 1, 0, none⟩) (by simp <;> omega) (.int .i64 0)).set_ 0 (.int .i64 0)).far (p := ⟨w.heap.size + 1 + 1 + 1, 0, none⟩) (by simp <;> omega) (.bool false)).far (p := ⟨w.heap.size + 1 + 1 + 1 + 1, 0, none⟩) (by simp <;> omega) (.int .i64 E)).drewN 1
    have bo := ((((HO2.out.far (p := ⟨w.heap.size + 1, 0, none⟩) (by simp <;> omega) (.int .i64 0)).far (p := ⟨w.heap.size + 1 + 1, 0, none⟩) (by simp <;> omega) (.int .i64 0)).set_ 0 (.bool false)).far (p := ⟨w.heap.size + 1 + 1 + 1 + 1, 0, none⟩) (by simp <;> omega) (.int .i64 E)).drewN 1
    have be := ((((HE2.out.far (p := ⟨w.heap.size + 1, 0, none⟩) (by simp <;> omega) (.int .i64 0)).far (p := ⟨w.heap.size + 1 + 1, 0, none⟩) (by simp <;> omega) (.int .i64 0)).far (p := ⟨w.heap.size + 1 + 1 + 1, 0, none⟩) (by simp <;> omega) (.bool false)).set_ 0 (.int .i64 E)).drewN 1
    refine bodyPostM_ret (results_cells4 rfl _ _ _ _ _ _ _ _ _ _ rfl rfl rfl rfl (bi.cell 0) (bj.cell 0) (bo.cell 0) (be.cell 0)) rfl ?_
    exact ⟨ret_val (HV.out _).symm, ((((HB2.out.setCell (p := ⟨w.heap.size + 1, 0, none⟩) (by simp <;> omega) _).setCell (p := ⟨w.heap.size + 1 + 1, 0, none⟩) (by simp <;> omega) _).setCell (p := ⟨w.heap.size + 1 + 1 + 1, 0, none⟩) (by simp <;> omega) _).setCell (p := ⟨w.heap.size + 1 + 1 + 1 + 1, 0, none⟩) (by simp <;> omega) _).drew⟩
end Go.Proofs.Ytbojjhdcmogjdaa
