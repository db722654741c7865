/- Contract of calibrate.distances. Contract of calibrate.Fails. -/
import Derived.Test.YtonkjnkokikpgaaGreatKeeps
import Derived.Test.YtonkjnkokikpgaaGreatTrials
import Derived.Test.YtonkjnkokikpgaaGreatApart
import Derived.Test.YtonkjnkokikpgaaGreatSolve
import Derived.Laws.ResultCell
import Derived.Maps.OwnIn
import Derived.RangeFuncBox
import Derived.OwnWalk
namespace Go.Proofs.YtonkjnkokikpgaaGreat
open Go.RowKit

attribute [local go_sem] Oper.semAt_some

theorem KpT.grown {n₀ bb : Nat} {A B : World} {row : Option Nat} (hg : A.grownBy B row) (hn : n₀ ≤ A.heap.size) (hr : ∀ k, row = some k → n₀ ≤ k ∧ k ≠ bb ∧ ∀ t cs, Blk A k t cs → t ≠ 49 ∧ t ≠ 23) : KpT n₀ bb A B :=
  ⟨(Below.refl _ A).grown hg hn (fun k e => (hr k e).1), fun k t cs h hb => blk_of_grown hb hg fun e => by
    obtain ⟨_, h2, h3⟩ := hr k e
    have := h3 t cs hb
    rcases h with h | h | h
    · exact this.1 h
    · exact this.2 h
    · exact h2 h⟩
theorem KpT.put {n₀ bb : Nat} {W : World} {l : Nat} {o o' : Obj} (hl : n₀ ≤ l) (h : W.heap[l]? = some o) (ho : o.isCells = false) : KpT n₀ bb W (W.putObj l o') :=
  ⟨below_putObj (Below.refl _ _) hl _, fun k t cs _ hb => blk_putObj hb (fun e => by
    subst e
    unfold Blk at hb
    rw [h] at hb
    cases hb
    cases ho) _⟩
/-- the distances of trials -/
def rowD (xs : List (Nat × Nat × Int)) : List Value := xs.map fun x => .int .i64 x.2.2
theorem rowD_snoc (xs : List (Nat × Nat × Int)) (x : Nat × Nat × Int) : rowD xs ++ [.int .i64 x.2.2] = rowD (xs ++ [x]) := by simp [rowD]
/-- between two rounds of the loop of distances -/
def InD (n₀ lb H : Nat) (w0 : World) (xs : List (Nat × Nat × Int)) (W : World) : Prop :=
  (∃ v, Boxed W lb 36 v ∧ W.ownsRow H 3 1 v xs.length (rowD xs) ∧ True) ∧ Below n₀ w0 W ∧ H ≤ W.heap.size
theorem InD.own {n₀ lb H : Nat} {w0 : World} (h0 : n₀ ≤ H) : OwnFrom H (InD n₀ lb H w0) := fun s X Y row hs hg hr =>
  ⟨holdsRow_own H lb 36 3 1 (fun s : List (Nat × Nat × Int) => s.length) rowD (fun _ _ => True) s X Y row hs.1 hg (fun r e => (hr r e).2), hs.2.1.grown hg (by have := hs.2.2; omega) (fun k e => by have := (hr k e).1; omega), Nat.le_trans hs.2.2 hg.size⟩
theorem InD.below {n₀ lb H : Nat} {w0 : World} (h0 : n₀ ≤ H) : ∀ s A B, InD n₀ lb H w0 s A → Below A.heap.size A B → InD n₀ lb H w0 s B := fun s A B hs hb => by
  obtain ⟨⟨v, hv, hr, _⟩, hbl, hz⟩ := hs
  exact ⟨⟨v, (hb.block _ (Array.getElem?_eq_some_iff.1 hv).1).trans hv, own_below hr hb, trivial⟩, hbl.trans (hb.mono (by omega)), Nat.le_trans hz hb.size⟩
theorem boxed_push1 {W w3 : World} {lb H k c : Nat} {A : Option Addr} {xs : List Value} {o : Obj} (hv : Boxed W lb 36 (.slice A k c)) (hO : W.ownsRow H 3 1 (.slice A k c) k xs) (hg : (W.alloc o).grownBy w3 (Value.slice A k c).ownBlock) : Boxed w3 lb 36 (.slice A k c) :=
  (hv.alloc o).kept hg ((hv.alloc o).not_row (by decide) (hO.alloc o))
theorem own_blk {W : World} {H e size n : Nat} {v : Value} {xs : List Value} (h : W.ownsRow H e size v n xs) {k : Nat} (hk : v.ownBlock = some k) {t : TypeId} {cs : Array Value} (hb : Blk W k t cs) : t = e := by
  rcases h.2 with ⟨h1, _⟩ | ⟨g, cap, cur, h1, _, hgb, _⟩
  · rw [h1] at hk; cases hk
  · rw [h1] at hk
    obtain rfl : g = k := by simpa [Value.ownBlock] using hk
    unfold Blk at hb
    rw [hgb] at hb
    cases hb
    rfl
theorem InD.push {n₀ lb H bb k : Nat} {w0 W w3 : World} {pre : List (Nat × Nat × Int)} {x : Nat × Nat × Int} {A1 A3 : Option Addr} {c1 c3 : Nat} {o : Obj} (act : Act) (hk : k = pre.length) (hlb : n₀ ≤ lb ∧ lb < bb) (hH : bb < H) (hb : Below n₀ w0 W) (hz : H ≤ W.heap.size)
    (hO : W.ownsRow H 3 1 (.slice A1 k c1) k (rowD pre)) (hg : (W.alloc o).grownBy w3 (Value.slice A1 k c1).ownBlock) (hv3 : Boxed w3 lb 36 (.slice A1 k c1))
    (hO3 : w3.ownsRow H 3 1 (.slice A3 (k + 1) c3) (k + 1) (rowD pre ++ [.int .i64 x.2.2])) :
    ownPostG H (KpT n₀ bb) (InD n₀ lb H w0) (fun _ _ _ => False) (pre ++ [x]) W .normal act (w3.setCell ⟨lb, 0, none⟩ (.slice A3 (k + 1) c3)) := by
  subst hk
  have hs := hg.size
  simp at hs
  have hg4 := grownBy_setCell' w3 lb (.slice A3 (pre.length + 1) c3)
  have hz3 := hg4.size
  refine ⟨(((KeepsOthers.alloc _ _).trans (KeepsOthers.of_grownBy hg ?_)).trans (KeepsOthers.setCell _ _ _)).from _, ((KpT.grown (World.grownBy_alloc W o none) (by omega) (fun k e => by cases e)).trans (KpT.grown hg (by simp; omega) (fun k e => ⟨by have := (hO.lt k e).1; omega, by have := (hO.lt k e).1; omega, fun t cs hb' => by rw [own_blk (hO.alloc o) e hb']; decide⟩))).trans (KpT.grown hg4 (by omega) (fun k e => ⟨by injection e with e; omega, by injection e with e; omega, fun t cs hb' => by
    injection e with e
    subst e
    unfold Blk at hb'
    unfold Boxed at hv3
    rw [hv3] at hb'
    cases hb'
    decide⟩)), ⟨_, hv3.set _, ?_, trivial⟩, ?_, by omega⟩
  · intro j o' hj ho'
    rcases (hO.alloc o).2 with ⟨e, _⟩ | ⟨g, cap, cur, e, _, hgb, _⟩
    · rw [e] at hj; cases hj
    · rw [e] at hj
      obtain rfl : g = j := by simpa [Value.ownBlock] using hj
      rw [hgb] at ho'
      cases ho'
      rfl
  · have := hO3.kept hg4 (.inr fun e => hv3.not_row (by decide) hO3 e.symm)
    rw [rowD_snoc] at this
    rw [List.length_append]
    exact this
  · exact ((hb.alloc (by omega) o).grown hg (by simp; omega) (fun k e => by have := (hO.lt k e).1; omega)).grown hg4 (by omega) (fun k e => by injection e with e; omega)

theorem results_slice36 {fn : Func} {p u : Tmp} (h : fn.results = #[.cell p 36, .tmp u]) (tmps : Array Value) (w : World) (g : Nat) (t : TypeId) (v : Value)
    (hp : tmps.getD p undef = .pointer (some ⟨g, 0, none⟩)) (hg : Blk w g t #[v]) :
    (results fn tmps).run Tryz.prog w = .ok (.tuple #[v, tmps.getD u undef]) w := by
  have hp' : tmps[p]?.getD undef = .pointer (some ⟨g, 0, none⟩) := by simpa using hp
  have hc : w.cell? ⟨g, 0, none⟩ = some v := hg.cell 0
  rw [results_cell_tmp h]
  simp [hp', asAddr, loadVar, hc, go_sem]
/-- the j-th distance -/
def dlF (p : PastF) (b : Int) (n j : Nat) : Int := ((trP p b n).getD j (0, 0, 0)).2.2
theorem rowD_at (p : PastF) (b : Int) (n : Nat) {j : Nat} (hj : j < (trP p b n).length) : (rowD (trP p b n))[j]? = some (.int .i64 (dlF p b n j)) := by
  simp [rowD, dlF, hj, List.getD]
/-- right arguments -/
def DGood (n : Nat) (p : PastF) (b fa of_ : Int) : Prop := PGood n p ∧ (0 ≤ b ∧ b ≤ 63) ∧ (1 ≤ of_ ∧ of_ ≤ 4096) ∧ 0 ≤ fa ∧ fa < of_
/-- what distances hands back -/
def DisR (n : Nat) (p : PastF) (b fa of_ : Int) (e : Ending) (w' : World) : Prop :=
  ∃ (D : Option Addr) (L dc : Nat) (E : Int), e = .returned (.tuple #[.slice D L dc, .int .i64 E]) ∧ (E = 0 ↔ DGood n p b fa of_) ∧ (E = 0 → L = (trP p b n).length) ∧ Rd w' w'.heap.size D L (fun j => .int .i64 (dlF p b n j))

set_option maxRecDepth 100000 in
set_option maxHeartbeats 8000000 in
theorem distances_18 (A : Option Addr) (n c B : Nat) (p : PastF) (b fa of_ : Int) (w : World) (hn : n ≤ 9223372036854775807) (hB : B ≤ w.heap.size) (hr : PastRd w B A n p) :
    Calls Tryz.prog 18 #[.slice A n c, .int .i64 b, .agg #[.int .i64 fa, .int .i64 of_]] w fun e w' => DisR n p b fa of_ e w' ∧ Below w.heap.size w w' := by
  have HR := Lib.hid hr
  clear hr
  have HNIL : Hid (∀ (E : Int) (w' : World), E ≠ 0 → ¬ DGood n p b fa of_ → DisR n p b fa of_ (.returned (.tuple #[.slice none 0 0, .int .i64 E])) w') := Lib.hid fun E w' hE hG =>
    ⟨none, 0, 0, E, rfl, ⟨fun h => absurd h hE, fun h => absurd h hG⟩, fun h => absurd h hE, Rd.nil⟩
  refine (callsIn_wide (n := 3)).1 (callsIn_of_wp_marks Tryz.func18 rfl trivial (wpIn_wide.2 ?_))
  simp only [Tryz.ntmps18, List.size_toArray, List.length_cons, List.length_nil, Nat.reduceAdd, Nat.reduceSub, Array.replicate_succ, Array.replicate_zero, List.push_toArray, List.append_toArray, List.nil_append, List.cons_append]
  go_upto_region 1 with fail
  obtain ⟨w3, hw3⟩ : ∃ zz, zz = (w.alloc (.cells #[.int .i64 fa, .int .i64 of_] 25)).alloc (.cells #[.slice none 0 0] 36) := ⟨_, rfl⟩
  have HW3 : Hid (Blk w3 w.heap.size 25 #[.int .i64 fa, .int .i64 of_]) := Lib.hid (hw3 ▸ (Blk.new _ _ _).alloc _)
  have HL3 : Hid (Blk w3 (w.heap.size + 1) 36 #[.slice none 0 0]) := Lib.hid (by have := Blk.new (w.alloc (.cells #[.int .i64 fa, .int .i64 of_] 25)) 36 #[.slice none 0 0]; rw [World.size_alloc] at this; rw [hw3]; exact this)
  have HB3 : Hid (Below w.heap.size w w3) := Lib.hid (by rw [hw3]; exact (below_alloc _ _).alloc (by simp) _)
  rw [← hw3]
  clear hw3
  go_wp2_with fail
  refine (Check_44 A n c B p w3 hn (by have := HB3.out.size; omega) (HR.out.below (HB3.out.mono hB))).mono ?_
  rintro e w4 ⟨rfl, hb4⟩
  have HB4 := Lib.hid (HB3.out.trans (hb4.mono HB3.out.size))
  have HW4 := Lib.hid (HW3.out.below hb4 HW3.out.lt)
  have HL4 := Lib.hid (HL3.out.below hb4 HL3.out.lt)
  clear hb4 HB3 HW3 HL3
  have hs4 := HL4.out.lt
  have cl : w4.cell? ⟨w.heap.size + 1, 0, none⟩ = some (.slice none 0 0) := HL4.out.cell 0
  have fl := HL4.out.frozen 0
  have cw0 : w4.cell? ⟨w.heap.size, 0, none⟩ = some (.int .i64 fa) := HW4.out.cell 0
  have cw1 : w4.cell? ⟨w.heap.size, 1, none⟩ = some (.int .i64 of_) := HW4.out.cell 1
  have HPE : Hid (pastE n p = 0 ↔ PGood n p) := Lib.hid pastE_iff
  generalize pastE n p = pe at HPE ⊢
  by_cases hpe : ¬ pe = 0
  · have h1e : (pe != 0) = true := by simpa using hpe
    have HE := Lib.hid hpe
    clear hpe
    go_wp2_with fail
    refine bodyPostM_ret (results_slice36 rfl _ _ (w.heap.size + 1) 36 (.slice none 0 0) rfl (HL4.out.set_ 0 (.slice none 0 0))) rfl ?_
    exact ⟨HNIL.out pe _ HE.out (fun h => HE.out (HPE.out.2 h.1)), HB4.out.setCell (p := ⟨w.heap.size + 1, 0, none⟩) (by simp) _⟩
  have hpe : pe = 0 := by omega
  subst hpe
  have HG := Lib.hid (HPE.out.1 rfl)
  clear HPE
  go_wp2_with fail
  refine (in_43 _ _ _ _).mono ?_
  rintro e u ⟨rfl, rfl⟩
  cases hq1 : ri3 0 b 63
  · have HE : Hid (¬ DGood n p b fa of_) := Lib.hid fun h => by rw [ri3_iff.2 h.2.1] at hq1; cases hq1
    clear hq1
    go_wp2_with fail
    refine bodyPostM_ret (results_slice36 rfl _ _ (w.heap.size + 1) 36 (.slice none 0 0) rfl (HL4.out.set_ 0 (.slice none 0 0))) rfl ?_
    exact ⟨HNIL.out 1 _ (by decide) HE.out, HB4.out.setCell (p := ⟨w.heap.size + 1, 0, none⟩) (by simp) _⟩
  have HQ1 := Lib.hid (ri3_iff.1 hq1)
  clear hq1
  go_wp2_with fail
  refine (in_43 _ _ _ _).mono ?_
  rintro e u ⟨rfl, rfl⟩
  cases hq2 : ri3 1 of_ 4096
  · have HE : Hid (¬ DGood n p b fa of_) := Lib.hid fun h => by rw [ri3_iff.2 h.2.2.1] at hq2; cases hq2
    clear hq2
    go_wp2_with fail
    refine bodyPostM_ret (results_slice36 rfl _ _ (w.heap.size + 1) 36 (.slice none 0 0) rfl (HL4.out.set_ 0 (.slice none 0 0))) rfl ?_
    exact ⟨HNIL.out 1 _ (by decide) HE.out, HB4.out.setCell (p := ⟨w.heap.size + 1, 0, none⟩) (by simp) _⟩
  have HQ2 := Lib.hid (ri3_iff.1 hq2)
  clear hq2
  by_cases h3 : fa < 0
  · have HE : Hid (¬ DGood n p b fa of_) := Lib.hid fun h => by have := h.2.2.2.1; omega
    have h3d : decide (fa < 0) = true := by simpa using h3
    go_wp2_with fail
    refine bodyPostM_ret (results_slice36 rfl _ _ (w.heap.size + 1) 36 (.slice none 0 0) rfl (HL4.out.set_ 0 (.slice none 0 0))) rfl ?_
    exact ⟨HNIL.out 1 _ (by decide) HE.out, HB4.out.setCell (p := ⟨w.heap.size + 1, 0, none⟩) (by simp) _⟩
  have h3d : decide (fa < 0) = false := by simpa using h3
  by_cases h4 : of_ ≤ fa
  · have HE : Hid (¬ DGood n p b fa of_) := Lib.hid fun h => by have := h.2.2.2.2; omega
    have h4d : decide (of_ ≤ fa) = true := by simpa using h4
    go_wp2_with fail
    refine bodyPostM_ret (results_slice36 rfl _ _ (w.heap.size + 1) 36 (.slice none 0 0) rfl (HL4.out.set_ 0 (.slice none 0 0))) rfl ?_
    exact ⟨HNIL.out 1 _ (by decide) HE.out, HB4.out.setCell (p := ⟨w.heap.size + 1, 0, none⟩) (by simp) _⟩
  have h4d : decide (of_ ≤ fa) = false := by simpa using h4
  have HDG : Hid (DGood n p b fa of_) := Lib.hid ⟨HG.out, HQ1.out, HQ2.out, by omega, by omega⟩
  clear h3 h4 HQ1 HQ2 HNIL
  go_wp2_with fail
  refine (trials_45 _ _ _ _ _).mono ?_
  rintro e U ⟨rfl, bt, bd, hbU⟩
  have HBU := Lib.hid (HB4.out.trans (hbU.mono (by omega)))
  have HLU : Hid (Boxed U (w.heap.size + 1) 36 (.slice none 0 0)) := Lib.hid (HL4.out.below hbU hs4)
  have HSEQ := Lib.hid (trials_seq 2 w4.heap.size (w4.heap.size + 1) w.heap.size B n c A p b HG.out hB U (by have := HBU.out.size; omega) bt bd (HR.out.below (HBU.out.mono hB)))
  have hzt := bd.lt
  clear bt bd hbU cl fl cw0 cw1 h3d h4d HW4 HL4
  have hlen : (trP p b n).length ≤ 4096 := by
    have h1 := trP_len p b (fun j hj => (HG.out.2 j hj).2.1.2) n (Nat.le_refl _)
    have h2 := HG.out.1
    omega
  go_wp2_with fail
  obtain ⟨i0, hif, hz0, hz1, hz2⟩ := info_parts info3
  refine (wpIn_wide (n := 3)).1 ?_
  refine wpIn_rangeFunc_M (F := Fence.wide) (n := 3) rfl (by omega) (gf := 68) (lb := #[.pointer (some ⟨w4.heap.size, 0, none⟩), .pointer (some ⟨w4.heap.size + 1, 0, none⟩)]) rfl trivial (enters_of Tryz.func68 (by kernel_rfl) rfl)
    HSEQ.out (fun h k => h.trans k) ?hKb (Below.refl _ _) (fun _ => rfl)
    (InD w.heap.size (w.heap.size + 1) U.heap.size w) (InD.own (by omega)) (InD.below (by omega)) ?h0
    (fun x a' W' => a' = { tmps := #[.slice A n c, .int .i64 b, .agg #[.int .i64 fa, .int .i64 of_], undef, undef, .pointer (some ⟨w.heap.size, 0, none⟩), .pointer (some ⟨w.heap.size + 1, 0, none⟩), .int .i64 0, undef, .int .i64 x.2.2, .slice A n c, .int .i64 0, .int .i64 0, .bool false, undef, .int .i64 b, .bool true, .bool false, .bool false, .pointer (some ⟨w.heap.size, 1, none⟩), .int .i64 of_, .bool true, .bool false, .bool false, .bool false, .pointer (some ⟨w.heap.size, 0, none⟩), .int .i64 fa, .bool false, .bool false, .bool false, .pointer (some ⟨w.heap.size, 0, none⟩), .int .i64 fa, .pointer (some ⟨w.heap.size, 1, none⟩), .int .i64 of_, .bool false, .bool false, .slice A n c, .int .i64 b, .func (.func 68) #[] #[.pointer (some ⟨w4.heap.size, 0, none⟩), .pointer (some ⟨w4.heap.size + 1, 0, none⟩)], .agg #[.int .i64 x.1, .int .i64 x.2.1], .int .i64 x.2.2, undef, undef, undef, undef, undef], defers := [] })
    (fun x a' s A B row hs hg hr => hs) ?assign ?body ?done
  case hKb =>
    intro W' l o o' hl ho hc _
    exact KpT.put (by omega) ho hc
  case h0 => exact ⟨⟨_, HLU.out, World.ownsRow_nil _ _ _ _, trivial⟩, HBU.out, Nat.le_refl _⟩
  case assign =>
    intro l pre x W' K hI hK
    dsimp only [trv]
    gi_wp2
    exact hK _ _ ((KeepsOthers.refl _).from _) (KpT.refl _) hI rfl
  case body =>
    rintro l pre x a' W' hl _ hI rfl ⟨rest, hpre⟩
    obtain ⟨⟨v, hv, hown, _⟩, hbW, hzW⟩ := hI
    have hpl : pre.length < 4096 := by
      have : (trP p b n).length = pre.length + (rest.length + 1) := by rw [hpre, List.length_append, List.length_cons]
      omega
    obtain ⟨A1, c1, hv1⟩ := own_form hown
    subst hv1
    have HV := Lib.hid hv
    have HO := Lib.hid hown
    have HBW := Lib.hid hbW
    have cl : W'.cell? ⟨w.heap.size + 1, 0, none⟩ = some (.slice A1 pre.length c1) := hv.cell
    clear hv hown hbW hpre
    gi_wp2_with (gi_at_builtin; refine wpListIn_append_own_at _ rfl _ _ 36 rfl U.heap.size 3 i0 (.int .i64 0) 1 8 Tryz.underlying36 hif hz0 hz1 hz2 rfl (by decide) (.slice A1 pre.length c1) pre.length (rowD pre) rfl (HO.out.alloc _) ⟨_, 0, none⟩ 1 1 [.int .i64 x.2.2] rfl rfl (cell_one_new _ _ _) (by simp [Value.oneCell']) (by unfold maxLen; omega) (by omega) (by simp; omega) ?_; intro vv w3 hown3 hgrow3 _ _; obtain ⟨A3, c3, hvv⟩ := own_form hown3; subst hvv; have HV3 : Hid (Boxed w3 (w.heap.size + 1) 36 (.slice A1 pre.length c1)) := Lib.hid (boxed_push1 HV.out HO.out hgrow3); have cl3 : w3.cell? ⟨w.heap.size + 1, 0, none⟩ = some (.slice A1 pre.length c1) := HV3.out.cell; have fl3 := HV3.out.frozen)
    rename_i hgrow3' _ _
    exact InD.push (bb := w4.heap.size + 1) _ rfl (by omega) (by omega) HBW.out hzW HO.out hgrow3 HV3.out hown3
  case done =>
    rintro D xs W' hD rfl hI hKD
    obtain ⟨⟨v, hv, hown, _⟩, hbW, hzW⟩ := hI
    obtain ⟨L, hL⟩ : ∃ L, L = (trP p b n).length := ⟨_, rfl⟩
    rw [← hL] at hown
    obtain ⟨A1, c1, hv1⟩ := own_form hown
    subst hv1
    have HV := Lib.hid hv
    have HO := Lib.hid hown
    have HBW := Lib.hid hbW
    have HKD := Lib.hid hKD
    have HLL := Lib.hid hL
    have cl : W'.cell? ⟨w.heap.size + 1, 0, none⟩ = some (.slice A1 L c1) := hv.cell
    have fl := hv.frozen
    clear hv hown hbW hKD hL
    go_wp2_with fail
    have hDl : D < W'.heap.size := (Array.getElem?_eq_some_iff.1 HKD.out).1
    have hg1 := grownBy_setCell' W' (w.heap.size + 1) (.slice A1 L c1)
    have HV1 : Hid (Boxed (W'.setCell ⟨w.heap.size + 1, 0, none⟩ (.slice A1 L c1)) (w.heap.size + 1) 36 (.slice A1 L c1)) := Lib.hid (HV.out.set _)
    have HB1 := Lib.hid (HBW.out.setCell (p := ⟨w.heap.size + 1, 0, none⟩) (by simp) (.slice A1 L c1))
    have HO1 := Lib.hid (HO.out.kept hg1 (.inr fun e => HV.out.not_row (by decide) HO.out e.symm))
    have HD1 : Hid ((W'.setCell ⟨w.heap.size + 1, 0, none⟩ (.slice A1 L c1)).heap[D]? = some (.deferred (some []))) := Lib.hid ((hg1.block D hDl (fun e => by injection e with e; omega)).trans HKD.out)
    clear hg1
    generalize W'.setCell ⟨w.heap.size + 1, 0, none⟩ (.slice A1 L c1) = W1 at HV1 HB1 HO1 HD1 ⊢
    have HO2 := ownsRow_putObj HO1.out (.deferred none) HD1.out rfl
    refine leaves_one (v := .tuple #[.slice A1 L c1, .int .i64 0]) HD1.out ?_ ?_
    · refine results_slice36 (p := 6) (u := 7) rfl _ _ (w.heap.size + 1) 36 (.slice A1 L c1) ?_ (blk_putObj HV1.out (show w.heap.size + 1 ≠ D by omega) _)
      rfl
    · exact ⟨⟨A1, L, c1, 0, rfl, ⟨fun _ => HDG.out, fun _ => rfl⟩, fun _ => HLL.out, Rd.of_own HO2 (fun j hj => rowD_at p b n (by have := HLL.out; omega)) |> fun h => by rw [Nat.mul_one] at h; exact h⟩, below_putObj HB1.out (by omega) _⟩
end Go.Proofs.YtonkjnkokikpgaaGreat
namespace Go.Proofs.YtonkjnkokikpgaaGreat
open Go.RowKit

attribute [local go_sem] Oper.semAt_some

theorem info91 : (Tryz.prog.info? 91).map (fun i => (i.zero, i.size, i.bytes)) = some (some (.agg #[.int .i64 0, .int .i64 0]), 2, 16) := by kernel_rfl
theorem cell_two_new (w : World) (x y : Value) (t : TypeId) : ∀ j u, [x, y][j]? = some u → (w.alloc (.cells #[x, y] t)).cell? ((⟨w.heap.size, 0, none⟩ : Addr).add j) = some u := by
  intro j u hu
  rw [Addr.add_lit, Nat.zero_add]
  match j, hu with
  | 0, hu => simpa using hu
  | 1, hu => simpa using hu
/-- the trials that fail -/
def flP (xs : List (Nat × Nat × Int)) : List (Nat × Nat × Int) := xs.filter fun x => decide (0 < x.2.2)
def rowF (xs : List (Nat × Nat × Int)) : List Value := xs.flatMap fun x => [.int .i64 x.1, .int .i64 x.2.1]
theorem flP_snoc (xs : List (Nat × Nat × Int)) (x : Nat × Nat × Int) (h : 0 < x.2.2) : flP (xs ++ [x]) = flP xs ++ [x] := by simp [flP, h]
theorem flP_skip (xs : List (Nat × Nat × Int)) (x : Nat × Nat × Int) (h : ¬ 0 < x.2.2) : flP (xs ++ [x]) = flP xs := by simp [flP]; omega
theorem flP_len (xs : List (Nat × Nat × Int)) : (flP xs).length ≤ xs.length := List.length_filter_le _ _
theorem rowF_snoc (xs : List (Nat × Nat × Int)) (x : Nat × Nat × Int) : rowF xs ++ [.int .i64 x.1, .int .i64 x.2.1] = rowF (xs ++ [x]) := by simp [rowF]
/-- between two rounds of the loop of Fails -/
def InF (n₀ lb H : Nat) (w0 : World) (xs : List (Nat × Nat × Int)) (W : World) : Prop :=
  (∃ v, Boxed W lb 88 v ∧ W.ownsRow H 91 2 v (flP xs).length (rowF (flP xs)) ∧ True) ∧ Below n₀ w0 W ∧ H ≤ W.heap.size
theorem InF.own {n₀ lb H : Nat} {w0 : World} (h0 : n₀ ≤ H) : OwnFrom H (InF n₀ lb H w0) := fun s X Y row hs hg hr =>
  ⟨holdsRow_own H lb 88 91 2 (fun s : List (Nat × Nat × Int) => (flP s).length) (fun s => rowF (flP s)) (fun _ _ => True) s X Y row hs.1 hg (fun r e => (hr r e).2), hs.2.1.grown hg (by have := hs.2.2; omega) (fun k e => by have := (hr k e).1; omega), Nat.le_trans hs.2.2 hg.size⟩
theorem InF.below {n₀ lb H : Nat} {w0 : World} (h0 : n₀ ≤ H) : ∀ s A B, InF n₀ lb H w0 s A → Below A.heap.size A B → InF n₀ lb H w0 s B := fun s A B hs hb => by
  obtain ⟨⟨v, hv, hr, _⟩, hbl, hz⟩ := hs
  exact ⟨⟨v, (hb.block _ (Array.getElem?_eq_some_iff.1 hv).1).trans hv, own_below hr hb, trivial⟩, hbl.trans (hb.mono (by omega)), Nat.le_trans hz hb.size⟩
theorem boxed_push2 {W w3 : World} {lb H k c : Nat} {A : Option Addr} {xs : List Value} {o : Obj} (hv : Boxed W lb 88 (.slice A k c)) (hO : W.ownsRow H 91 2 (.slice A k c) k xs) (hg : (W.alloc o).grownBy w3 (Value.slice A k c).ownBlock) : Boxed w3 lb 88 (.slice A k c) :=
  (hv.alloc o).kept hg ((hv.alloc o).not_row (by decide) (hO.alloc o))
theorem one_two (a b : Int) : ∀ u ∈ [Value.int .i64 a, Value.int .i64 b], u.oneCell' = true := by
  intro u hu
  simp at hu
  rcases hu with rfl | rfl <;> rfl
theorem InF.push {n₀ lb H bb k : Nat} {w0 W w3 : World} {pre : List (Nat × Nat × Int)} {x : Nat × Nat × Int} {A1 A3 : Option Addr} {c1 c3 : Nat} {o : Obj} (act : Act) (hx : 0 < x.2.2) (hk : k = (flP pre).length) (hlb : n₀ ≤ lb ∧ lb < bb) (hH : bb < H) (hb : Below n₀ w0 W) (hz : H ≤ W.heap.size)
    (hO : W.ownsRow H 91 2 (.slice A1 k c1) k (rowF (flP pre))) (hg : (W.alloc o).grownBy w3 (Value.slice A1 k c1).ownBlock) (hv3 : Boxed w3 lb 88 (.slice A1 k c1))
    (hO3 : w3.ownsRow H 91 2 (.slice A3 (k + 1) c3) (k + 1) (rowF (flP pre) ++ [.int .i64 x.1, .int .i64 x.2.1])) :
    ownPostG H (KpT n₀ bb) (InF n₀ lb H w0) (fun _ _ _ => False) (pre ++ [x]) W .normal act (w3.setCell ⟨lb, 0, none⟩ (.slice A3 (k + 1) c3)) := by
  subst hk
  have hs := hg.size
  simp at hs
  have hg4 := grownBy_setCell' w3 lb (.slice A3 ((flP pre).length + 1) c3)
  have hz3 := hg4.size
  refine ⟨(((KeepsOthers.alloc _ _).trans (KeepsOthers.of_grownBy hg ?_)).trans (KeepsOthers.setCell _ _ _)).from _, ((KpT.grown (World.grownBy_alloc W o none) (by omega) (fun k e => by cases e)).trans (KpT.grown hg (by simp; omega) (fun k e => ⟨by have := (hO.lt k e).1; omega, by have := (hO.lt k e).1; omega, fun t cs hb' => by rw [own_blk (hO.alloc o) e hb']; decide⟩))).trans (KpT.grown hg4 (by omega) (fun k e => ⟨by injection e with e; omega, by injection e with e; omega, fun t cs hb' => by
    injection e with e
    subst e
    unfold Blk at hb'
    unfold Boxed at hv3
    rw [hv3] at hb'
    cases hb'
    decide⟩)), ⟨_, hv3.set _, ?_, trivial⟩, ?_, by omega⟩
  · intro j o' hj ho'
    rcases (hO.alloc o).2 with ⟨e, _⟩ | ⟨g, cap, cur, e, _, hgb, _⟩
    · rw [e] at hj; cases hj
    · rw [e] at hj
      obtain rfl : g = j := by simpa [Value.ownBlock] using hj
      rw [hgb] at ho'
      cases ho'
      rfl
  · have := hO3.kept hg4 (.inr fun e => hv3.not_row (by decide) hO3 e.symm)
    rw [rowF_snoc] at this
    rw [flP_snoc _ _ hx, List.length_append]
    exact this
  · exact ((hb.alloc (by omega) o).grown hg (by simp; omega) (fun k e => by have := (hO.lt k e).1; omega)).grown hg4 (by omega) (fun k e => by injection e with e; omega)

theorem results_slice88 {fn : Func} {p u : Tmp} (h : fn.results = #[.cell p 88, .tmp u]) (tmps : Array Value) (w : World) (g : Nat) (t : TypeId) (v : Value)
    (hp : tmps.getD p undef = .pointer (some ⟨g, 0, none⟩)) (hg : Blk w g t #[v]) :
    (results fn tmps).run Tryz.prog w = .ok (.tuple #[v, tmps.getD u undef]) w := by
  have hp' : tmps[p]?.getD undef = .pointer (some ⟨g, 0, none⟩) := by simpa using hp
  have hc : w.cell? ⟨g, 0, none⟩ = some v := hg.cell 0
  rw [results_cell_tmp h]
  simp [hp', asAddr, loadVar, hc, go_sem]
/-- the j-th trial that fails -/
def flF (p : PastF) (b : Int) (n j : Nat) : Int × Int := ((((flP (trP p b n)).getD j (0, 0, 0)).1 : Nat), (((flP (trP p b n)).getD j (0, 0, 0)).2.1 : Nat))
theorem rowF_at : ∀ (xs : List (Nat × Nat × Int)) (j : Nat), j < xs.length * 2 → (rowF xs)[j]? = some (if j % 2 = 0 then .int .i64 ((xs.getD (j / 2) (0, 0, 0)).1 : Nat) else .int .i64 ((xs.getD (j / 2) (0, 0, 0)).2.1 : Nat))
  | [], j, h => by simp at h
  | x :: xs, 0, _ => by simp [rowF]
  | x :: xs, 1, _ => by simp [rowF]
  | x :: xs, j + 2, h => by
    have h1 := rowF_at xs j (by simp at h; omega)
    have h2 : rowF (x :: xs) = [.int .i64 x.1, .int .i64 x.2.1] ++ rowF xs := by simp [rowF]
    rw [h2, List.getElem?_append_right (by simp)]
    simp only [List.length_cons, List.length_nil]
    rw [show j + 2 - (0 + 1 + 1) = j by omega, h1, show (j + 2) / 2 = j / 2 + 1 by omega, show (j + 2) % 2 = j % 2 by omega]
    simp
theorem flF_rd {w : World} {base c : Nat} {A : Option Addr} (p : PastF) (b : Int) (n L : Nat) (hL : L = (flP (trP p b n)).length) (h : w.ownsRow base 91 2 (.slice A L c) L (rowF (flP (trP p b n)))) : Rd w w.heap.size A (L * 2) (rsc (flF p b n)) :=
  Rd.of_own h fun j hj => by
    rw [rowF_at _ _ (by omega)]
    unfold rsc flF
    rfl
/-- what Fails hands back -/
def FaiR (n : Nat) (p : PastF) (b : Int) (e : Ending) (w' : World) : Prop :=
  ∃ (D : Option Addr) (L dc : Nat) (E : Int), e = .returned (.tuple #[.slice D L dc, .int .i64 E]) ∧ (PGood n p → 0 ≤ b ∧ b ≤ 63 → E = 0) ∧ (E = 0 → L = (flP (trP p b n)).length) ∧ Rd w' w'.heap.size D (L * 2) (rsc (flF p b n))

set_option maxRecDepth 100000 in
set_option maxHeartbeats 8000000 in
theorem Fails_32 (A : Option Addr) (n c B : Nat) (p : PastF) (b : Int) (w : World) (hn : n ≤ 9223372036854775807) (hB : B ≤ w.heap.size) (hr : PastRd w B A n p) :
    Calls Tryz.prog 32 #[.slice A n c, .int .i64 b] w fun e w' => FaiR n p b e w' ∧ Below w.heap.size w w' := by
  have HR := Lib.hid hr
  clear hr
  have HNIL : Hid (∀ (E : Int) (w' : World), E ≠ 0 → (¬ PGood n p ∨ ¬ (0 ≤ b ∧ b ≤ 63)) → FaiR n p b (.returned (.tuple #[.slice none 0 0, .int .i64 E])) w') := Lib.hid fun E w' hE hG =>
    ⟨none, 0, 0, E, rfl, fun h1 h2 => absurd h2 (hG.resolve_left (fun h => h h1)), fun h => absurd h hE, Rd.nil⟩
  refine (callsIn_wide (n := 3)).1 (callsIn_of_wp_marks Tryz.func32 rfl trivial (wpIn_wide.2 ?_))
  simp only [Tryz.ntmps32, List.size_toArray, List.length_cons, List.length_nil, Nat.reduceAdd, Nat.reduceSub, Array.replicate_succ, Array.replicate_zero, List.push_toArray, List.append_toArray, List.nil_append, List.cons_append]
  go_upto_region 1 with fail
  obtain ⟨w3, hw3⟩ : ∃ zz, zz = w.alloc (.cells #[.slice none 0 0] 88) := ⟨_, rfl⟩
  have HL3 : Hid (Blk w3 w.heap.size 88 #[.slice none 0 0]) := Lib.hid (hw3 ▸ Blk.new _ _ _)
  have HB3 : Hid (Below w.heap.size w w3) := Lib.hid (hw3 ▸ below_alloc _ _)
  rw [← hw3]
  clear hw3
  go_wp2_with fail
  refine (Check_44 A n c B p w3 hn (by have := HB3.out.size; omega) (HR.out.below (HB3.out.mono hB))).mono ?_
  rintro e w4 ⟨rfl, hb4⟩
  have HB4 := Lib.hid (HB3.out.trans (hb4.mono HB3.out.size))
  have HL4 := Lib.hid (HL3.out.below hb4 HL3.out.lt)
  clear hb4 HB3 HL3
  have hs4 := HL4.out.lt
  have cl : w4.cell? ⟨w.heap.size, 0, none⟩ = some (.slice none 0 0) := HL4.out.cell 0
  have fl := HL4.out.frozen 0
  have HPE : Hid (pastE n p = 0 ↔ PGood n p) := Lib.hid pastE_iff
  generalize pastE n p = pe at HPE ⊢
  by_cases hpe : ¬ pe = 0
  · have h1e : (pe != 0) = true := by simpa using hpe
    have HE := Lib.hid hpe
    clear hpe
    go_wp2_with fail
    refine bodyPostM_ret (results_slice88 rfl _ _ w.heap.size 88 (.slice none 0 0) rfl (HL4.out.set_ 0 (.slice none 0 0))) rfl ?_
    exact ⟨HNIL.out pe _ HE.out (.inl fun h => HE.out (HPE.out.2 h)), HB4.out.setCell (p := ⟨w.heap.size, 0, none⟩) (by simp) _⟩
  have hpe : pe = 0 := by omega
  subst hpe
  have HG := Lib.hid (HPE.out.1 rfl)
  clear HPE
  go_wp2_with fail
  refine (in_43 _ _ _ _).mono ?_
  rintro e u ⟨rfl, rfl⟩
  cases hq1 : ri3 0 b 63
  · have HE : Hid (¬ PGood n p ∨ ¬ (0 ≤ b ∧ b ≤ 63)) := Lib.hid (.inr fun h => by rw [ri3_iff.2 h] at hq1; cases hq1)
    clear hq1
    go_wp2_with fail
    refine bodyPostM_ret (results_slice88 rfl _ _ w.heap.size 88 (.slice none 0 0) rfl (HL4.out.set_ 0 (.slice none 0 0))) rfl ?_
    exact ⟨HNIL.out 1 _ (by decide) HE.out, HB4.out.setCell (p := ⟨w.heap.size, 0, none⟩) (by simp) _⟩
  clear hq1 HNIL
  go_wp2_with fail
  refine (trials_45 _ _ _ _ _).mono ?_
  rintro e U ⟨rfl, bt, bd, hbU⟩
  have HBU := Lib.hid (HB4.out.trans (hbU.mono (by omega)))
  have HLU : Hid (Boxed U w.heap.size 88 (.slice none 0 0)) := Lib.hid (HL4.out.below hbU hs4)
  have HSEQ := Lib.hid (trials_seq 2 w4.heap.size (w4.heap.size + 1) w.heap.size B n c A p b HG.out hB U (by have := HBU.out.size; omega) bt bd (HR.out.below (HBU.out.mono hB)))
  have hzt := bd.lt
  clear bt bd hbU cl fl HL4
  have hlen : (trP p b n).length ≤ 4096 := by
    have h1 := trP_len p b (fun j hj => (HG.out.2 j hj).2.1.2) n (Nat.le_refl _)
    have h2 := HG.out.1
    omega
  go_wp2_with fail
  obtain ⟨i0, hif, hz0, hz1, hz2⟩ := info_parts info91
  refine (wpIn_wide (n := 3)).1 ?_
  refine wpIn_rangeFunc_M (F := Fence.wide) (n := 3) rfl (by omega) (gf := 68) (lb := #[.pointer (some ⟨w4.heap.size, 0, none⟩), .pointer (some ⟨w4.heap.size + 1, 0, none⟩)]) rfl trivial (enters_of Tryz.func68 (by kernel_rfl) rfl)
    HSEQ.out (fun h k => h.trans k) ?hKb (Below.refl _ _) (fun _ => rfl)
    (InF w.heap.size w.heap.size U.heap.size w) (InF.own (by omega)) (InF.below (by omega)) ?h0
    (fun x a' W' => ∃ xb, U.heap.size ≤ xb ∧ Blk W' xb 91 #[.int .i64 x.1, .int .i64 x.2.1] ∧ a' = { tmps := #[.slice A n c, .int .i64 b, undef, undef, .pointer (some ⟨w.heap.size, 0, none⟩), .int .i64 0, .pointer (some ⟨xb, 0, none⟩), .int .i64 x.2.2, .slice A n c, .int .i64 0, .int .i64 0, .bool false, undef, .int .i64 b, .bool true, .bool false, .slice A n c, .int .i64 b, .func (.func 68) #[] #[.pointer (some ⟨w4.heap.size, 0, none⟩), .pointer (some ⟨w4.heap.size + 1, 0, none⟩)], .agg #[.int .i64 x.1, .int .i64 x.2.1], .int .i64 x.2.2, undef, undef, undef, undef, undef, undef, undef], defers := [] })
    ?hAx ?assign ?body ?done
  case hKb =>
    intro W' l o o' hl ho hc _
    exact KpT.put (by omega) ho hc
  case h0 => exact ⟨⟨_, HLU.out, World.ownsRow_nil _ _ _ _, trivial⟩, HBU.out, Nat.le_refl _⟩
  case hAx =>
    rintro x a' _ X Y row ⟨xb, hxb, hx, rfl⟩ hg hr
    refine ⟨xb, hxb, (hg.block xb hx.lt (fun e => ?_)).trans hx, rfl⟩
    obtain ⟨o, ho, hc⟩ := (hr xb e.symm).2
    rw [show X.heap[xb]? = _ from hx] at ho
    cases ho
    cases hc
  case assign =>
    intro l pre x W' K hI hK
    dsimp only [trv]
    gi_wp2
    exact hK _ _ ((KeepsOthers.alloc _ _).from _) (KpT.grown (World.grownBy_alloc W' _ none) (by have := hI.2.2; omega) (fun k e => by cases e)) ((InF.own (by omega)).alloc _ hI) ⟨_, hI.2.2, Blk.new _ _ _, rfl⟩
  case body =>
    rintro l pre x a' W' hl _ hI ⟨xb, hxb, hx, rfl⟩ ⟨rest, hpre⟩
    have hpl : (flP pre).length < 4096 := by
      have h1 : (trP p b n).length = pre.length + (rest.length + 1) := by rw [hpre, List.length_append, List.length_cons]
      have h2 := flP_len pre
      omega
    by_cases h0 : ¬ 0 < x.2.2
    · have h0d : decide (0 < x.2.2) = false := by simpa using h0
      have HII : Hid (InF w.heap.size w.heap.size U.heap.size w (pre ++ [x]) W') := Lib.hid (by
        obtain ⟨⟨v, hv, hown, _⟩, hbW, hzW⟩ := hI
        exact ⟨⟨v, hv, by rw [flP_skip _ _ h0]; exact hown, trivial⟩, hbW, hzW⟩)
      clear hI h0 hx hpre
      gi_wp2
      exact ⟨(KeepsOthers.refl _).from _, KpT.refl _, HII.out⟩
    have h0 : 0 < x.2.2 := by omega
    have h0d : decide (0 < x.2.2) = true := by simpa using h0
    obtain ⟨⟨v, hv, hown, _⟩, hbW, hzW⟩ := hI
    obtain ⟨A1, c1, hv1⟩ := own_form hown
    subst hv1
    have HV := Lib.hid hv
    have HX := Lib.hid hx
    have HO := Lib.hid hown
    have HBW := Lib.hid hbW
    have HXP := Lib.hid h0
    have x0 : W'.cell? ⟨xb, 0, none⟩ = some (.int .i64 x.1) := hx.cell 0
    have x1 : W'.cell? ⟨xb, 1, none⟩ = some (.int .i64 x.2.1) := hx.cell 1
    have cl : W'.cell? ⟨w.heap.size, 0, none⟩ = some (.slice A1 (flP pre).length c1) := hv.cell
    clear hv hx hown hbW hpre h0
    gi_wp2_with (gi_at_builtin; refine wpListIn_append_own_at _ rfl _ _ 88 rfl U.heap.size 91 i0 (.agg #[.int .i64 0, .int .i64 0]) 2 16 Tryz.underlying88 hif hz0 hz1 hz2 rfl (by decide) (.slice A1 (flP pre).length c1) (flP pre).length (rowF (flP pre)) rfl (HO.out.alloc _) ⟨_, 0, none⟩ 1 1 [.int .i64 x.1, .int .i64 x.2.1] rfl rfl (cell_two_new _ _ _ _) (one_two _ _) (by unfold maxLen; omega) (by omega) (by simp; omega) ?_; intro vv w3 hown3 hgrow3 _ _; obtain ⟨A3, c3, hvv⟩ := own_form hown3; subst hvv; have HV3 : Hid (Boxed w3 w.heap.size 88 (.slice A1 (flP pre).length c1)) := Lib.hid (boxed_push2 HV.out HO.out hgrow3); have cl3 : w3.cell? ⟨w.heap.size, 0, none⟩ = some (.slice A1 (flP pre).length c1) := HV3.out.cell; have fl3 := HV3.out.frozen)
    rename_i hgrow3' _ _
    exact InF.push (bb := w4.heap.size + 1) _ HXP.out rfl (by omega) (by omega) HBW.out hzW HO.out hgrow3 HV3.out hown3
  case done =>
    rintro D xs W' hD rfl hI hKD
    obtain ⟨⟨v, hv, hown, _⟩, hbW, hzW⟩ := hI
    obtain ⟨L, hL⟩ : ∃ L, L = (flP (trP p b n)).length := ⟨_, rfl⟩
    rw [← hL] at hown
    obtain ⟨A1, c1, hv1⟩ := own_form hown
    subst hv1
    have HV := Lib.hid hv
    have HO := Lib.hid hown
    have HBW := Lib.hid hbW
    have HKD := Lib.hid hKD
    have HLL := Lib.hid hL
    have cl : W'.cell? ⟨w.heap.size, 0, none⟩ = some (.slice A1 L c1) := hv.cell
    have fl := hv.frozen
    clear hv hown hbW hKD hL
    go_wp2_with fail
    have hDl : D < W'.heap.size := (Array.getElem?_eq_some_iff.1 HKD.out).1
    have hg1 := grownBy_setCell' W' w.heap.size (.slice A1 L c1)
    have HV1 : Hid (Boxed (W'.setCell ⟨w.heap.size, 0, none⟩ (.slice A1 L c1)) w.heap.size 88 (.slice A1 L c1)) := Lib.hid (HV.out.set _)
    have HB1 := Lib.hid (HBW.out.setCell (p := ⟨w.heap.size, 0, none⟩) (by simp) (.slice A1 L c1))
    have HO1 := Lib.hid (HO.out.kept hg1 (.inr fun e => HV.out.not_row (by decide) HO.out e.symm))
    have HD1 : Hid ((W'.setCell ⟨w.heap.size, 0, none⟩ (.slice A1 L c1)).heap[D]? = some (.deferred (some []))) := Lib.hid ((hg1.block D hDl (fun e => by injection e with e; omega)).trans HKD.out)
    clear hg1
    generalize W'.setCell ⟨w.heap.size, 0, none⟩ (.slice A1 L c1) = W1 at HV1 HB1 HO1 HD1 ⊢
    have HO2 := ownsRow_putObj HO1.out (.deferred none) HD1.out rfl
    refine leaves_one (v := .tuple #[.slice A1 L c1, .int .i64 0]) HD1.out ?_ ?_
    · refine results_slice88 (p := 4) (u := 5) rfl _ _ w.heap.size 88 (.slice A1 L c1) ?_ (blk_putObj HV1.out (show w.heap.size ≠ D by omega) _)
      rfl
    · exact ⟨⟨A1, L, c1, 0, rfl, fun _ _ => rfl, fun _ => HLL.out, flF_rd p b n L HLL.out HO2⟩, below_putObj HB1.out (by omega) _⟩
end Go.Proofs.YtonkjnkokikpgaaGreat
