/- Contracts of ensembles' ranges and Bounds. -/
import Derived.Test.YtonkjnkokikpgaaGreatPeriods
import Derived.Test.YtonkjnkokikpgaaGreatTrim
import Derived.Test.YtonkjnkokikpgaaGreatWiden
namespace Go.Proofs.YtonkjnkokikpgaaGreat
open Go.RowKit

attribute [local go_sem] Oper.semAt_some

theorem KpU.grown {n₀ : Nat} {A B : World} {row : Option Nat} (hg : A.grownBy B row) (hn : n₀ ≤ A.heap.size) (hr : ∀ k, row = some k → n₀ ≤ k ∧ ∀ t cs, Blk A k t cs → t ≠ 40 ∧ t ≠ 103) : KpU n₀ A B :=
  ⟨(Below.refl _ A).grown hg hn (fun k e => (hr k e).1), fun k t cs h hb => blk_of_grown hb hg fun e => by
    obtain ⟨_, h3⟩ := hr k e
    have := h3 t cs hb
    rcases h with h | h
    · exact this.1 h
    · exact this.2 h⟩
theorem KpU.put {n₀ : Nat} {W : World} {l : Nat} {o o' : Obj} (hl : n₀ ≤ l) (h : W.heap[l]? = some o) (ho : o.isCells = false) : KpU n₀ W (W.putObj l o') :=
  ⟨below_putObj (Below.refl _ _) hl _, fun k t cs _ hb => blk_putObj hb (fun e => by
    subst e
    unfold Blk at hb
    rw [h] at hb
    cases hb
    cases ho) _⟩
/-- some ranges -/
def rowQ (xs : List (Int × Int)) : List Value := xs.flatMap fun x => [.int .i64 x.1, .int .i64 x.2]
theorem rowQ_snoc (xs : List (Int × Int)) (x : Int × Int) : rowQ xs ++ [.int .i64 x.1, .int .i64 x.2] = rowQ (xs ++ [x]) := by simp [rowQ]
theorem rowQ_at : ∀ (xs : List (Int × Int)) (j : Nat), j < xs.length * 2 → (rowQ xs)[j]? = some (rsc (fun i => xs.getD i (0, 0)) j)
  | [], j, h => by simp at h
  | x :: xs, 0, _ => by simp [rowQ, rsc]
  | x :: xs, 1, _ => by simp [rowQ, rsc]
  | x :: xs, j + 2, h => by
    have h1 := rowQ_at xs j (by simp at h; omega)
    have h2 : rowQ (x :: xs) = [.int .i64 x.1, .int .i64 x.2] ++ rowQ xs := by simp [rowQ]
    rw [h2, List.getElem?_append_right (by simp)]
    simp only [List.length_cons, List.length_nil]
    rw [show j + 2 - (0 + 1 + 1) = j by omega, h1]
    unfold rsc
    rw [show (j + 2) / 2 = j / 2 + 1 by omega, show (j + 2) % 2 = j % 2 by omega]
    simp
theorem getD_push {R : Nat → Int × Int → Prop} {ps : List (Int × Int)} {x : Int × Int} (h : ∀ k, k < ps.length → R k (ps.getD k (0, 0))) (hx : R ps.length x) {j : Nat} (hj : j < (ps ++ [x]).length) : R j ((ps ++ [x]).getD j (0, 0)) := by
  rw [List.length_append] at hj
  simp only [List.length_cons, List.length_nil] at hj
  by_cases e : j = ps.length
  · subst e
    simpa [List.getD] using hx
  · have h1 := h j (by omega)
    have h2 : (ps ++ [x]).getD j (0, 0) = ps.getD j (0, 0) := by
      simp [List.getD, List.getElem?_append_left (show j < ps.length by omega)]
    rw [h2]
    exact h1
/-- between two rounds of the loop of ranges -/
def InG (R : Nat → Int × Int → Prop) (n₀ lb H : Nat) (w0 : World) (xs : List (Option Addr × Nat × Nat)) (W : World) : Prop :=
  (∃ ps : List (Int × Int), (ps.length = xs.length ∧ ∀ k, k < ps.length → R k (ps.getD k (0, 0))) ∧ ∃ v, Boxed W lb 41 v ∧ W.ownsRow H 53 2 v xs.length (rowQ ps) ∧ True) ∧ Below n₀ w0 W ∧ H ≤ W.heap.size
theorem InG.own {R : Nat → Int × Int → Prop} {n₀ lb H : Nat} {w0 : World} (h0 : n₀ ≤ H) : OwnFrom H (InG R n₀ lb H w0) := fun s X Y row hs hg hr => by
  obtain ⟨⟨ps, hR, hp⟩, h2, h3⟩ := hs
  exact ⟨⟨ps, hR, holdsRow_own H lb 41 53 2 (fun s : List (Option Addr × Nat × Nat) => s.length) (fun _ => rowQ ps) (fun _ _ => True) s X Y row hp hg (fun r e => (hr r e).2)⟩, h2.grown hg (by omega) (fun k e => by have := (hr k e).1; omega), Nat.le_trans h3 hg.size⟩
theorem InG.below {R : Nat → Int × Int → Prop} {n₀ lb H : Nat} {w0 : World} (h0 : n₀ ≤ H) : ∀ s A B, InG R n₀ lb H w0 s A → Below A.heap.size A B → InG R n₀ lb H w0 s B := fun s A B hs hb => by
  obtain ⟨⟨ps, hR, v, hv, hr, _⟩, hbl, hz⟩ := hs
  exact ⟨⟨ps, hR, v, (hb.block _ (Array.getElem?_eq_some_iff.1 hv).1).trans hv, own_below hr hb, trivial⟩, hbl.trans (hb.mono (by omega)), Nat.le_trans hz hb.size⟩
theorem boxed_push3 {W w3 : World} {lb H k c : Nat} {A : Option Addr} {xs : List Value} {o : Obj} (hv : Boxed W lb 41 (.slice A k c)) (hO : W.ownsRow H 53 2 (.slice A k c) k xs) (hg : (W.alloc o).grownBy w3 (Value.slice A k c).ownBlock) : Boxed w3 lb 41 (.slice A k c) :=
  (hv.alloc o).kept hg ((hv.alloc o).not_row (by decide) (hO.alloc o))
theorem InG.push {R : Nat → Int × Int → Prop} {n₀ lb H k : Nat} {U W0 W w3 : World} {pre : List (Option Addr × Nat × Nat)} {y : Option Addr × Nat × Nat} {ps : List (Int × Int)} {A1 A3 : Option Addr} {c1 c3 : Nat} {a b : Int} {o : Obj} (act : Act) (hR : ps.length = pre.length ∧ ∀ k, k < ps.length → R k (ps.getD k (0, 0))) (hab : R pre.length (a, b)) (hk : k = pre.length) (hlb : n₀ ≤ lb ∧ lb < H) (h0 : KeepsOthers W0 W) (h1 : KpU n₀ W0 W) (hb : Below lb U W) (hz : H ≤ W.heap.size)
    (hO : W.ownsRow H 53 2 (.slice A1 k c1) k (rowQ ps)) (hg : (W.alloc o).grownBy w3 (Value.slice A1 k c1).ownBlock) (hv3 : Boxed w3 lb 41 (.slice A1 k c1))
    (hO3 : w3.ownsRow H 53 2 (.slice A3 (k + 1) c3) (k + 1) (rowQ ps ++ [.int .i64 a, .int .i64 b])) :
    ownPostG H (KpU n₀) (InG R lb lb H U) (fun _ _ _ => False) (pre ++ [y]) W0 .normal act (w3.setCell ⟨lb, 0, none⟩ (.slice A3 (k + 1) c3)) := by
  subst hk
  have hs := hg.size
  simp at hs
  have hg4 := grownBy_setCell' w3 lb (.slice A3 (pre.length + 1) c3)
  have hz3 := hg4.size
  refine ⟨((h0.trans ((KeepsOthers.alloc _ _).trans (KeepsOthers.of_grownBy hg ?_))).trans (KeepsOthers.setCell _ _ _)).from _, (h1.trans ((KpU.grown (World.grownBy_alloc W o none) (by omega) (fun k e => by cases e)).trans (KpU.grown hg (by simp; omega) (fun k e => ⟨by have := (hO.lt k e).1; omega, fun t cs hb' => by rw [own_blk (hO.alloc o) e hb']; decide⟩)))).trans (KpU.grown hg4 (by omega) (fun k e => ⟨by injection e with e; omega, fun t cs hb' => by
    injection e with e
    subst e
    unfold Blk at hb'
    unfold Boxed at hv3
    rw [hv3] at hb'
    cases hb'
    decide⟩)), ⟨ps ++ [(a, b)], ⟨by rw [List.length_append, List.length_append, hR.1]; rfl, fun j hj => getD_push hR.2 (by rw [hR.1]; exact hab) hj⟩, _, hv3.set _, ?_, trivial⟩, ?_, by omega⟩
  · intro j o' hj ho'
    rcases (hO.alloc o).2 with ⟨e, _⟩ | ⟨g, cap, cur, e, _, hgb, _⟩
    · rw [e] at hj; cases hj
    · rw [e] at hj
      obtain rfl : g = j := by simpa [Value.ownBlock] using hj
      rw [hgb] at ho'
      cases ho'
      rfl
  · have := hO3.kept hg4 (.inr fun e => hv3.not_row (by decide) hO3 e.symm)
    rw [rowQ_snoc (x := (a, b))] at this
    rw [List.length_append]
    exact this
  · exact ((hb.alloc (by omega) o).grown hg (by simp; omega) (fun k e => by have := (hO.lt k e).1; omega)).grown hg4 (by omega) (fun k e => by injection e with e; omega)
/-- what is owned stays when a walk's object turns -/
theorem own_walks {H H' e size n : Nat} {v : Value} {xs : List Value} {X Y : World} {row : Option Nat} (h : X.ownsRow H' e size v n xs) (hg : X.grownBy Y row) (hr : ∀ r, row = some r → H ≤ r ∧ ∃ o : Obj, X.heap[r]? = some o ∧ o.isCells = false) : Y.ownsRow H' e size v n xs := by
  refine h.kept hg ?_
  cases hv : v.ownBlock with
  | none => exact .inl rfl
  | some g =>
    refine .inr fun e1 => ?_
    obtain ⟨_, o, ho, hc⟩ := hr g e1.symm
    rcases h.2 with ⟨h1, _⟩ | ⟨g', cap, cur, h1, _, hgb, _⟩
    · rw [h1] at hv; cases hv
    · rw [h1] at hv
      obtain rfl : g' = g := by simpa [Value.ownBlock] using hv
      rw [hgb] at ho
      cases ho
      cases hc
theorem own_cells {H e size n : Nat} {v : Value} {xs : List Value} {X : World} (h : X.ownsRow H e size v n xs) : ∀ j o', v.ownBlock = some j → X.heap[j]? = some o' → o'.isCells = true := by
  intro j o' hj ho'
  rcases h.2 with ⟨e, _⟩ | ⟨g, cap, cur, e, _, hgb, _⟩
  · rw [e] at hj; cases hj
  · rw [e] at hj
    obtain rfl : g = j := by simpa [Value.ownBlock] using hj
    rw [hgb] at ho'
    cases ho'
    rfl
/-- rows of other elements lie in other blocks -/
theorem own_other {H H' e e' size size' n n' : Nat} {v v' : Value} {xs xs' : List Value} {X : World} (h : X.ownsRow H e size v n xs) (h' : X.ownsRow H' e' size' v' n' xs') (hne : e ≠ e') : ∀ g, v.ownBlock = some g → v'.ownBlock ≠ some g := by
  intro g hg hg'
  rcases h.2 with ⟨h1, _⟩ | ⟨g1, cap, cur, h1, _, hb1, _⟩
  · rw [h1] at hg; cases hg
  rcases h'.2 with ⟨h2, _⟩ | ⟨g2, cap2, cur2, h2, _, hb2, _⟩
  · rw [h2] at hg'; cases hg'
  rw [h1] at hg
  rw [h2] at hg'
  obtain rfl : g1 = g := by simpa [Value.ownBlock] using hg
  obtain rfl : g2 = g1 := by simpa [Value.ownBlock] using hg'
  rw [hb1] at hb2
  cases hb2
  exact hne rfl
theorem results_slice41 {fn : Func} {p u : Tmp} (h : fn.results = #[.cell p 41, .tmp u]) (tmps : Array Value) (w : World) (g : Nat) (t : TypeId) (v : Value)
    (hp : tmps.getD p undef = .pointer (some ⟨g, 0, none⟩)) (hg : Blk w g t #[v]) :
    (results fn tmps).run Tryz.prog w = .ok (.tuple #[v, tmps.getD u undef]) w := by
  have hp' : tmps[p]?.getD undef = .pointer (some ⟨g, 0, none⟩) := by simpa using hp
  have hc : w.cell? ⟨g, 0, none⟩ = some v := hg.cell 0
  rw [results_cell_tmp h]
  simp [hp', asAddr, loadVar, hc, go_sem]
/-- some ranges, or an error; for a right ensemble, none left out, the least and the greatest -/
def RanR (bd mk : Int) (n : Nat) (x : EnsF) (lw hgh : Int) (e : Ending) (w' : World) : Prop := ∃ (D : Option Addr) (L dc : Nat) (E : Int) (f : Nat → Int × Int), e = .returned (.tuple #[.slice D L dc, .int .i64 E]) ∧ L ≤ 16 ∧ Rd w' w'.heap.size D (L * 2) (rsc f) ∧
  (EFull bd mk n x → lw = 0 → hgh = 0 → E = 0 ∧ L = x.ml 0 ∧ ∀ k, k < L → LoHi (fun i => x.mv i k) n (f k).1 (f k).2)

set_option maxRecDepth 100000 in
set_option maxHeartbeats 2000000 in
theorem ranges_40 (bd mk lw hgh : Int) (A : Option Addr) (n c B : Nat) (x : EnsF) (w : World) (hn : n ≤ 9223372036854775807) (hlh : -1000000 ≤ lw ∧ lw ≤ 1000000 ∧ -1000000 ≤ hgh ∧ hgh ≤ 1000000) (hB : B ≤ w.heap.size) (hr : EnsRd w B A n x) :
    Calls Tryz.prog 40 #[.agg #[.int .i64 bd, .int .i64 mk, .slice A n c], .int .i64 lw, .int .i64 hgh, .func (.func 41) #[] #[]] w fun e w' => RanR bd mk n x lw hgh e w' ∧ Below w.heap.size w w' := by
  have HR := Lib.hid hr
  have HNIL : Hid (∀ (E : Int) (w' : World), ¬ (EFull bd mk n x ∧ lw = 0 ∧ hgh = 0) → RanR bd mk n x lw hgh (.returned (.tuple #[.slice none 0 0, .int .i64 E])) w') := Lib.hid fun E w' h => ⟨none, 0, 0, E, fun _ => (0, 0), rfl, by omega, Rd.nil, fun h1 h2 h3 => absurd ⟨h1, h2, h3⟩ h⟩
  clear hr
  refine (callsIn_wide (n := 3)).1 (callsIn_of_wp_marks Tryz.func40 rfl trivial (wpIn_wide.2 ?_))
  simp only [Tryz.ntmps40, List.size_toArray, List.length_cons, List.length_nil, Nat.reduceAdd, Nat.reduceSub, Array.replicate_succ, Array.replicate_zero, List.push_toArray, List.append_toArray, List.nil_append, List.cons_append]
  go_upto_region 1 with fail
  obtain ⟨w3, hw3⟩ : ∃ zz, zz = (((w.alloc (.cells #[.int .i64 bd, .int .i64 mk, .slice A n c] 40)).alloc (.cells #[.int .i64 lw] 3)).alloc (.cells #[.int .i64 hgh] 3)).alloc (.cells #[.slice none 0 0] 41) := ⟨_, rfl⟩
  obtain ⟨lb, hlb⟩ : ∃ lb, lb = w.heap.size + 1 + 1 + 1 := ⟨_, rfl⟩
  obtain ⟨hib, hhib⟩ : ∃ hib, hib = w.heap.size + 1 + 1 := ⟨_, rfl⟩
  obtain ⟨lob, hlob⟩ : ∃ lob, lob = w.heap.size + 1 := ⟨_, rfl⟩
  have HT3 : Hid (Blk w3 w.heap.size 40 #[.int .i64 bd, .int .i64 mk, .slice A n c]) := Lib.hid (hw3 ▸ (((Blk.new _ _ _).alloc _).alloc _).alloc _)
  have HO3 : Hid (Blk w3 lob 3 #[.int .i64 lw]) := Lib.hid (by rw [hw3]; exact ((Blk.new' (by simp [hlob])).alloc _).alloc _)
  have HI3 : Hid (Blk w3 hib 3 #[.int .i64 hgh]) := Lib.hid (by rw [hw3]; exact (Blk.new' (by simp [hhib])).alloc _)
  have HL3 : Hid (Blk w3 lb 41 #[.slice none 0 0]) := Lib.hid (by rw [hw3]; exact Blk.new' (by simp [hlb]))
  have HB3 : Hid (Below w.heap.size w w3) := Lib.hid (by rw [hw3]; exact (((below_alloc _ _).alloc (by simp) _).alloc (by simp; omega) _).alloc (by simp; omega) _)
  rw [← hw3, ← hlb, ← hhib, ← hlob]
  have hbb : w.heap.size < lob ∧ lob < hib ∧ hib < lb := by omega
  clear hw3 hlb hhib hlob
  have t0 : w3.cell? ⟨w.heap.size, 0, none⟩ = some (.int .i64 bd) := HT3.out.cell 0
  have t1 : w3.cell? ⟨w.heap.size, 1, none⟩ = some (.int .i64 mk) := HT3.out.cell 1
  have t2 : w3.cell? ⟨w.heap.size, 2, none⟩ = some (.slice A n c) := HT3.out.cell 2
  go_wp2_with fail
  refine (Check_60 bd mk A n c B x w3 hn (by have := HB3.out.size; omega) (HR.out.below (HB3.out.mono hB))).mono ?_
  rintro e w4 ⟨⟨E, rfl, hE⟩, hb4⟩
  have HE := Lib.hid hE
  have HB4 := Lib.hid (HB3.out.trans (hb4.mono HB3.out.size))
  have HT4 := Lib.hid (HT3.out.below hb4 HT3.out.lt)
  have HO4 := Lib.hid (HO3.out.below hb4 HO3.out.lt)
  have HI4 := Lib.hid (HI3.out.below hb4 HI3.out.lt)
  have HL4 := Lib.hid (HL3.out.below hb4 HL3.out.lt)
  clear hE hb4 HB3 HT3 HO3 HI3 HL3 t0 t1 t2
  have hs4 := HL4.out.lt
  have cl : w4.cell? ⟨lb, 0, none⟩ = some (.slice none 0 0) := HL4.out.cell 0
  have fl := HL4.out.frozen 0
  have t0 : w4.cell? ⟨w.heap.size, 0, none⟩ = some (.int .i64 bd) := HT4.out.cell 0
  have t1 : w4.cell? ⟨w.heap.size, 1, none⟩ = some (.int .i64 mk) := HT4.out.cell 1
  have t2 : w4.cell? ⟨w.heap.size, 2, none⟩ = some (.slice A n c) := HT4.out.cell 2
  have t2' : w4.cell? ⟨w.heap.size, 1 + 1, none⟩ = some (.slice A n c) := HT4.out.cell 2
  have l0 : w4.cell? ⟨lob, 0, none⟩ = some (.int .i64 lw) := HO4.out.cell 0
  have g0 : w4.cell? ⟨hib, 0, none⟩ = some (.int .i64 hgh) := HI4.out.cell 0
  by_cases h1 : ¬ E = 0
  · have h1e : (E != 0) = true := by simpa using h1
    have HX : Hid (¬ (EFull bd mk n x ∧ lw = 0 ∧ hgh = 0)) := Lib.hid fun h => h1 (HE.out.2 h.1)
    clear h1
    go_wp2_with fail
    refine bodyPostM_ret (results_slice41 rfl _ _ lb 41 (.slice none 0 0) rfl (HL4.out.set_ 0 (.slice none 0 0))) rfl ?_
    exact ⟨HNIL.out _ _ HX.out, HB4.out.setCell (p := ⟨lb, 0, none⟩) (by simp; omega) _⟩
  obtain rfl : E = 0 := by omega
  have HFU := Lib.hid (HE.out.1 rfl)
  have HG := Lib.hid HFU.out.1
  clear HE
  obtain ⟨hn1, hn64⟩ := HG.out.1
  by_cases h2 : lw < 0
  · have hd : decide (lw < 0) = true := by simpa using h2
    have HX : Hid (¬ (EFull bd mk n x ∧ lw = 0 ∧ hgh = 0)) := Lib.hid fun h => by omega
    clear h2
    go_wp2_with fail
    refine bodyPostM_ret (results_slice41 rfl _ _ lb 41 (.slice none 0 0) rfl (HL4.out.set_ 0 (.slice none 0 0))) rfl ?_
    exact ⟨HNIL.out _ _ HX.out, HB4.out.setCell (p := ⟨lb, 0, none⟩) (by simp; omega) _⟩
  have h2d : decide (lw < 0) = false := by simpa using h2
  by_cases h3 : hgh < 0
  · have hd : decide (hgh < 0) = true := by simpa using h3
    have HX : Hid (¬ (EFull bd mk n x ∧ lw = 0 ∧ hgh = 0)) := Lib.hid fun h => by omega
    clear h3
    go_wp2_with fail
    refine bodyPostM_ret (results_slice41 rfl _ _ lb 41 (.slice none 0 0) rfl (HL4.out.set_ 0 (.slice none 0 0))) rfl ?_
    exact ⟨HNIL.out _ _ HX.out, HB4.out.setCell (p := ⟨lb, 0, none⟩) (by simp; omega) _⟩
  have h3d : decide (hgh < 0) = false := by simpa using h3
  by_cases h4 : (n : Int) ≤ lw
  · have hd : decide ((n : Int) ≤ lw) = true := by simpa using h4
    have HX : Hid (¬ (EFull bd mk n x ∧ lw = 0 ∧ hgh = 0)) := Lib.hid fun h => by omega
    clear h4
    go_wp2_with fail
    refine bodyPostM_ret (results_slice41 rfl _ _ lb 41 (.slice none 0 0) rfl (HL4.out.set_ 0 (.slice none 0 0))) rfl ?_
    exact ⟨HNIL.out _ _ HX.out, HB4.out.setCell (p := ⟨lb, 0, none⟩) (by simp; omega) _⟩
  have h4d : decide ((n : Int) ≤ lw) = false := by simpa using h4
  have hws : IntKind.i64.wrap ((n : Int) - lw) = (n : Int) - lw := IntWalk.i64_in _ ⟨by omega, by omega⟩
  by_cases h5 : (n : Int) - lw ≤ hgh
  · have hd : decide ((n : Int) - lw ≤ hgh) = true := by simpa using h5
    have HX : Hid (¬ (EFull bd mk n x ∧ lw = 0 ∧ hgh = 0)) := Lib.hid fun h => by omega
    clear h5
    go_wp2_with fail
    refine bodyPostM_ret (results_slice41 rfl _ _ lb 41 (.slice none 0 0) rfl (HL4.out.set_ 0 (.slice none 0 0))) rfl ?_
    exact ⟨HNIL.out _ _ HX.out, HB4.out.setCell (p := ⟨lb, 0, none⟩) (by simp; omega) _⟩
  have h5d : decide ((n : Int) - lw ≤ hgh) = false := by simpa using h5
  have HLH : Hid ((0 ≤ lw ∧ lw < n) ∧ 0 ≤ hgh ∧ hgh < n - lw) := Lib.hid (by omega)
  clear h2 h3 h4 h5 HNIL
  go_wp2_with fail
  refine (periods_61 _ _ _ _ _ _).mono ?_
  rintro e U ⟨rfl, bt, bf, hbU⟩
  have HBU := Lib.hid (HB4.out.trans (hbU.mono (by omega)))
  have HLU : Hid (Boxed U lb 41 (.slice none 0 0)) := Lib.hid (HL4.out.below hbU hs4)
  have HOU := Lib.hid (HO4.out.below hbU HO4.out.lt)
  have HIU := Lib.hid (HI4.out.below hbU HI4.out.lt)
  have HSEQ := Lib.hid (periods_seq 2 w4.heap.size (w4.heap.size + 1) w.heap.size B n c bd mk A x HG.out hB U (by have := HBU.out.size; omega) bt bf (HR.out.below (HBU.out.mono hB)))
  have hzt := bf.lt
  clear bt bf hbU cl fl t0 t1 t2 t2' l0 g0 HT4 HO4 HI4 HL4
  go_wp2_with fail
  obtain ⟨i0, hif, hz0, hz1, hz2⟩ := info_parts info48
  have hlU : lb < U.heap.size := by omega
  refine (wpIn_wide (n := 3)).1 ?_
  refine wpIn_rangeFunc_X (F := Fence.wide) (n := 3) rfl (by omega) (gf := 81) (lb := #[.pointer (some ⟨w4.heap.size, 0, none⟩), .pointer (some ⟨w4.heap.size + 1, 0, none⟩)]) rfl trivial (enters_of Tryz.func81 (by kernel_rfl) rfl)
    HSEQ.out (fun h k => h.trans k) ?hKb (Below.refl _ _) (fun _ => rfl)
    (InG (fun k q => lw = 0 → hgh = 0 → LoHi (fun i => x.mv i k) n q.1 q.2) lb lb U.heap.size U) (InG.own (by omega)) (InG.below (by omega)) ?h0
    (fun y a' W' => W'.ownsRow U.heap.size 3 1 (.slice y.1 n y.2.1) n (rowOf (fun i => x.mv i y.2.2) n) ∧ a' = { tmps := #[.agg #[.int .i64 bd, .int .i64 mk, .slice A n c], .int .i64 lw, .int .i64 hgh, .func (.func 41) #[] #[], .pointer (some ⟨w.heap.size, 0, none⟩), .pointer (some ⟨lob, 0, none⟩), .pointer (some ⟨hib, 0, none⟩), undef, .pointer (some ⟨lb, 0, none⟩), .int .i64 0, .int .i64 n, .slice y.1 n y.2.1, undef, undef, .agg #[.int .i64 bd, .int .i64 mk, .slice A n c], .int .i64 0, .int .i64 0, .bool false, undef, .pointer (some ⟨w.heap.size, 2, none⟩), .slice A n c, .int .i64 n, .int .i64 lw, .bool false, .bool false, .int .i64 hgh, .bool false, .bool false, .bool false, .int .i64 lw, .int .i64 n, .bool false, .bool false, .bool false, .int .i64 hgh, .int .i64 n, .int .i64 lw, .int .i64 ((n : Int) - lw), .bool false, .bool false, .agg #[.int .i64 bd, .int .i64 mk, .slice A n c], .func (.func 41) #[] #[], .func (.func 81) #[] #[.pointer (some ⟨w4.heap.size, 0, none⟩), .pointer (some ⟨w4.heap.size + 1, 0, none⟩)], .slice y.1 n y.2.1, undef, undef, undef, undef, undef, undef, undef, undef, undef, undef, undef, undef, undef, undef], defers := [] })
    ?hAx ?assign ?body ?done
  case hKb =>
    intro W' l o o' hl ho hc _
    exact KpU.put (by omega) ho hc
  case h0 => exact ⟨⟨[], ⟨rfl, fun k hk => absurd hk (by simp)⟩, _, HLU.out, World.ownsRow_nil _ _ _ _, trivial⟩, Below.refl _ _, Nat.le_refl _⟩
  case hAx =>
    rintro y a' _ X Y row ⟨hf, rfl⟩ hg hr
    exact ⟨own_walks hf hg hr, rfl⟩
  case assign =>
    intro l pre y W' K hI hN hK
    obtain ⟨_, hf⟩ := hN
    dsimp only [prv]
    gi_wp2
    exact hK _ _ ((KeepsOthers.refl _).from _) (KpU.refl _) hI ⟨hf, rfl⟩
  case body =>
    rintro l pre y a' W' hl _ hI ⟨hf, rfl⟩ ⟨W0, ⟨hpl, hyk⟩, _⟩
    obtain ⟨⟨ps, hps, v, hv, hown, _⟩, hbW, hzW⟩ := hI
    have HPS := Lib.hid hps
    have HYK := Lib.hid hyk
    clear hps hyk
    obtain ⟨A1, c1, hv1⟩ := own_form hown
    subst hv1
    have HV := Lib.hid hv
    have HO := Lib.hid hown
    have HBW := Lib.hid hbW
    have HF := Lib.hid hf
    have l0 : W'.cell? ⟨lob, 0, none⟩ = some (.int .i64 lw) := (HOU.out.below (hbW.mono (by omega : lob + 1 ≤ lb)) (by omega)).cell 0
    have g0 : W'.cell? ⟨hib, 0, none⟩ = some (.int .i64 hgh) := (HIU.out.below (hbW.mono (by omega : hib + 1 ≤ lb)) (by omega)).cell 0
    clear hv hown hbW hf
    gi_wp2
    refine ⟨trivial, CallsIn.inRound l (callsIn_wide.2 ((trim_62 U.heap.size n y.2.1 y.1 (fun i => x.mv i y.2.2) lw hgh W' (by omega) (by omega) HLH.out.1 HLH.out.2 HF.out).mono ?_))⟩
    rintro e W1 ⟨⟨a, b, rfl, hlo⟩, hg1⟩
    have HLO := Lib.hid hlo
    clear hlo
    have HV1 : Hid (Boxed W1 lb 41 (.slice A1 pre.length c1)) := Lib.hid (HV.out.kept hg1 (fun e => by have := (HF.out.lt _ e.symm).1; omega))
    have HO1 : Hid (W1.ownsRow U.heap.size 53 2 (.slice A1 pre.length c1) pre.length (rowQ ps)) := Lib.hid (by
      refine HO.out.kept hg1 ?_
      cases hq : (Value.slice A1 pre.length c1).ownBlock with
      | none => exact .inl rfl
      | some g => exact .inr fun e => own_other HO.out HF.out (by decide) g hq e.symm)
    have HK1 : Hid (KeepsOthers W' W1) := Lib.hid (KeepsOthers.of_grownBy hg1 (own_cells HF.out))
    have HU1 : Hid (KpU w.heap.size W' W1) := Lib.hid (KpU.grown hg1 (by omega) (fun k e => ⟨by have := (HF.out.lt k e).1; omega, fun t cs hb' => by rw [own_blk HF.out e hb']; decide⟩))
    have HB1 : Hid (Below lb U W1) := Lib.hid (HBW.out.grown hg1 (by omega) (fun k e => by have := (HF.out.lt k e).1; omega))
    have hzW1 : U.heap.size ≤ W1.heap.size := Nat.le_trans hzW hg1.size
    have cl : W1.cell? ⟨lb, 0, none⟩ = some (.slice A1 pre.length c1) := HV1.out.cell
    clear hg1 HV HO HBW HF l0 g0
    gi_wp2_with (gi_at_builtin; refine wpListIn_append_own_at _ rfl _ _ 41 rfl U.heap.size 53 i0 (.agg #[.int .i64 0, .int .i64 0]) 2 16 Tryz.underlying41 hif hz0 hz1 hz2 rfl (by decide) (.slice A1 pre.length c1) pre.length (rowQ ps) rfl (HO1.out.alloc _) ⟨_, 0, none⟩ 1 1 [.int .i64 a, .int .i64 b] rfl rfl (cell_two_new _ _ _ _) (one_two _ _) (by unfold maxLen; omega) (by omega) (by simp; omega) ?_; intro vv w3 hown3 hgrow3 _ _; obtain ⟨A3, c3, hvv⟩ := own_form hown3; subst hvv; have HV3 : Hid (Boxed w3 lb 41 (.slice A1 pre.length c1)) := Lib.hid (boxed_push3 HV1.out HO1.out hgrow3); have cl3 : w3.cell? ⟨lb, 0, none⟩ = some (.slice A1 pre.length c1) := HV3.out.cell; have fl3 := HV3.out.frozen)
    rename_i hgrow3' _ _
    exact InG.push _ HPS.out (by rw [← HYK.out]; exact HLO.out) rfl (by omega) HK1.out HU1.out HB1.out hzW1 HO1.out hgrow3 HV3.out hown3
  case done =>
    rintro D xs W' hD hxl hI hKD
    obtain ⟨⟨ps, hps, v, hv, hown, _⟩, hbW, hzW⟩ := hI
    obtain ⟨L, hL⟩ : ∃ L, L = xs.length := ⟨_, rfl⟩
    rw [← hL] at hown hxl hps
    have HPS := Lib.hid hps
    have HXL := Lib.hid hxl
    clear hps hxl
    obtain ⟨A1, c1, hv1⟩ := own_form hown
    subst hv1
    have HV := Lib.hid hv
    have HO := Lib.hid hown
    have HBW := Lib.hid hbW
    have HKD := Lib.hid hKD
    have cl : W'.cell? ⟨lb, 0, none⟩ = some (.slice A1 L c1) := hv.cell
    have fl := hv.frozen
    clear hv hown hbW hKD hL
    go_wp2_with fail
    have hDl : D < W'.heap.size := (Array.getElem?_eq_some_iff.1 HKD.out).1
    have hg1 := grownBy_setCell' W' lb (.slice A1 L c1)
    have HV1 : Hid (Boxed (W'.setCell ⟨lb, 0, none⟩ (.slice A1 L c1)) lb 41 (.slice A1 L c1)) := Lib.hid (HV.out.set _)
    have HB1 : Hid (Below w.heap.size w (W'.setCell ⟨lb, 0, none⟩ (.slice A1 L c1))) := Lib.hid ((HBU.out.trans (HBW.out.mono (by omega))).setCell (p := ⟨lb, 0, none⟩) (by simp; omega) (.slice A1 L c1))
    have HO1 := Lib.hid (HO.out.kept hg1 (.inr fun e => HV.out.not_row (by decide) HO.out e.symm))
    have HD1 : Hid ((W'.setCell ⟨lb, 0, none⟩ (.slice A1 L c1)).heap[D]? = some (.deferred (some []))) := Lib.hid ((hg1.block D hDl (fun e => by injection e with e; omega)).trans HKD.out)
    clear hg1
    generalize W'.setCell ⟨lb, 0, none⟩ (.slice A1 L c1) = W1 at HV1 HB1 HO1 HD1 ⊢
    have HO2 := ownsRow_putObj HO1.out (.deferred none) HD1.out rfl
    have hpl : ps.length = L := HPS.out.1
    refine leaves_one (v := .tuple #[.slice A1 L c1, .int .i64 0]) HD1.out ?_ ?_
    · refine results_slice41 (p := 8) (u := 9) rfl _ _ lb 41 (.slice A1 L c1) ?_ (blk_putObj HV1.out (show lb ≠ D by omega) _)
      rfl
    · exact ⟨⟨A1, L, c1, 0, fun i => ps.getD i (0, 0), rfl, by have h1 := HXL.out; have h2 := HG.out.2.1; omega, Rd.of_own HO2 (fun j hj => rowQ_at ps j (by omega)), fun _ h1 h2 => ⟨rfl, HXL.out, fun k hk => HPS.out.2 k (by have := HPS.out.1; omega) h1 h2⟩⟩, below_putObj HB1.out (by omega) _⟩

set_option maxRecDepth 100000 in
theorem Bounds_16 (bd mk lw hgh : Int) (A : Option Addr) (n c B : Nat) (x : EnsF) (w : World) (hn : n ≤ 9223372036854775807) (hlh : -1000000 ≤ lw ∧ lw ≤ 1000000 ∧ -1000000 ≤ hgh ∧ hgh ≤ 1000000) (hB : B ≤ w.heap.size) (hr : EnsRd w B A n x) :
    Calls Tryz.prog 16 #[.agg #[.int .i64 bd, .int .i64 mk, .slice A n c], .int .i64 lw, .int .i64 hgh] w fun e w' => RanR bd mk n x lw hgh e w' ∧ Below w.heap.size w w' := by
  obtain ⟨w0, hw0⟩ : ∃ zz, zz = w.alloc (.cells #[.int .i64 bd, .int .i64 mk, .slice A n c] 40) := ⟨_, rfl⟩
  have HK0 : Hid (Blk w0 w.heap.size 40 #[.int .i64 bd, .int .i64 mk, .slice A n c]) := Lib.hid (hw0 ▸ Blk.new _ _ _)
  have HB0 : Hid (Below w.heap.size w w0) := Lib.hid (hw0 ▸ below_alloc _ _)
  have HRN := Lib.hid (ranges_40 bd mk lw hgh A n c B x w0 hn hlh (by have := HB0.out.size; omega) (hr.below (HB0.out.mono hB)))
  have HW := Lib.hid hw0
  clear hw0 hr
  have t0 : w0.cell? ⟨w.heap.size, 0, none⟩ = some (.int .i64 bd) := HK0.out.cell 0
  have t1 : w0.cell? ⟨w.heap.size, 1, none⟩ = some (.int .i64 mk) := HK0.out.cell 1
  have t2 : w0.cell? ⟨w.heap.size, 2, none⟩ = some (.slice A n c) := HK0.out.cell 2
  go_enter Tryz.func16, Tryz.ntmps16
  go_upto_region 1 with fail
  rw [← HW.out]
  clear HW
  go_wp2_with fail
  refine HRN.out.mono ?_
  rintro e w1 ⟨⟨D, L, dc, E, f, rfl, hL, hrd, hex⟩, hb⟩
  have HEX := Lib.hid hex
  clear hex
  have HRD := Lib.hid hrd
  have HB1 := Lib.hid (HB0.out.trans (hb.mono HB0.out.size))
  clear hrd hb HRN
  go_wp2_with fail
  refine bodyPost_ret (results_tmp2 rfl _ _ _) rfl ?_
  exact ⟨⟨D, L, dc, E, f, rfl, hL, HRD.out, HEX.out⟩, HB1.out⟩
end Go.Proofs.YtonkjnkokikpgaaGreat
