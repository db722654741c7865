/- Contract of Split. No condition. -/
import Derived.Test.YthmebjbaigiehaaMix
import Derived.Test.YthmebjbaigiehaaParts
import Derived.Laws.ResultCell
import Derived.Maps.OwnIn
import Derived.RangeFuncBox
namespace Go.Proofs.Ythmebjbaigiehaa
open Go.RowKit

attribute [local go_sem] Oper.semAt_some

/-- the mark that a range over a function leaves -/
def markD (D : Nat) : Deferred := { target := .collected D, args := #[] }
theorem below_putObj {B : Nat} {w W : World} (h : Below B w W) {D : Nat} (hD : B ≤ D) (o : Obj) : Below B w (W.putObj D o) :=
  h.trans ⟨rfl, rfl, rfl, by simp [World.putObj], fun k hk => World.putObj_heap_other (by omega)⟩
theorem blk_putObj {W : World} {D g : Nat} {t : TypeId} {cs : Array Value} (h : Blk W g t cs) (hD : g ≠ D) (o : Obj) : Blk (W.putObj D o) g t cs := by
  unfold Blk at h ⊢
  rw [World.putObj_heap_other hD]
  exact h
theorem bodyPostM_ret {F : Fence} {n : Nat} {P : Program} {fn : Func} {R : Ending → World → Prop} {a : Act} {w : World} {v : Value}
    (hr : (results fn a.tmps).run P w = .ok v w) (hd : a.defers = []) (hR : R (.returned v) w) : bodyPostM F n P fn R .ret a w := by
  show LeavesInM F n P fn a.tmps R a.defers .returning w
  rw [hd]
  exact ⟨_, hr, hR⟩
/-- leaving a function behind one range over a function in whose body no call was deferred -/
theorem leaves_one {F : Fence} {m : Nat} {P : Program} {fn : Func} {tmps : Array Value} {R : Ending → World → Prop} {v : Value} {D : Nat} {W : World}
    (hD : W.heap[D]? = some (.deferred (some []))) (hres : (results fn tmps).run P (W.putObj D (.deferred none)) = .ok v (W.putObj D (.deferred none))) (hR : R (.returned v) (W.putObj D (.deferred none))) : LeavesInM F m P fn tmps R [markD D] .returning W :=
  ⟨by simp, .inl ⟨D, _, rfl, run_takeDeferred hD, ⟨_, hres, hR⟩⟩⟩

theorem info24 : (Try.prog.info? 24).map (fun i => (i.zero, i.size, i.bytes)) = some (some (.agg #[.int .i64 0, .int .i64 0]), 2, 16) := by kernel_rfl
/-- the cells of pairs -/
def rowQ (xs : List (Int × Int)) : List Value := xs.flatMap fun x => [.int .i64 x.1, .int .i64 x.2]
theorem rowQ_snoc (xs : List (Int × Int)) (x : Int × Int) : rowQ xs ++ [.int .i64 x.1, .int .i64 x.2] = rowQ (xs ++ [x]) := by simp [rowQ]

/-- what Split hands back -/
def SplR (E : Int) (n : Nat) (X Y : Nat → Int) (e : Ending) (w' : World) : Prop :=
  ∃ A' n' c', e = .returned (.tuple #[.slice A' n' c', .int .i64 E]) ∧ n' = (if E = 0 then n else 0) ∧ RdP w' w'.heap.size A' n' X Y

/-- the same, and that the capacity is no less than the length -/
def SplRc (E : Int) (n : Nat) (X Y : Nat → Int) (e : Ending) (w' : World) : Prop :=
  ∃ A' n' c', e = .returned (.tuple #[.slice A' n' c', .int .i64 E]) ∧ n' = (if E = 0 then n else 0) ∧ RdP w' w'.heap.size A' n' X Y ∧ n' ≤ c'
theorem own_cap {w : World} {base : Nat} {e : TypeId} {size n c : Nat} {A : Option Addr} {xs : List Value} (h : w.ownsRow base e size (.slice A n c) n xs) : n ≤ c := by
  rcases h.2 with ⟨_, h0⟩ | ⟨g, cap, cur, hv, _, _, hle, _⟩
  · omega
  · injection hv with _ _ h3
    omega

theorem quiet_l {P : Program} {f : FuncId} {args : Array Value} {w : World} {n : Nat} {v : Value}
    (h : Calls P f args (w.drewN n) fun e w' => e = .returned v ∧ w.drewN n = w') : Calls P f args (w.drewN n) fun e w'' => e = .returned v ∧ ∃ m, w'' = w.drewN m :=
  h.mono fun _ _ ⟨he, hm⟩ => ⟨he, n, hm.symm⟩

theorem rowQ_splL (L S : Int) (P : Nat → Int) : ∀ n, rowQ (splL L S P n) = rowP P (splS L S P) n
  | 0 => rfl
  | n + 1 => by rw [← splL_succ, ← rowQ_snoc, rowQ_splL L S P n, rowP_succ]
theorem KpV.grown {n₀ sb vb fb : Nat} {A B : World} {row : Option Nat} (hg : A.grownBy B row) (hn : n₀ ≤ A.heap.size) (hlt : sb < A.heap.size ∧ vb < A.heap.size ∧ fb < A.heap.size) (hr : ∀ k, row = some k → n₀ ≤ k ∧ k ≠ sb ∧ k ≠ vb ∧ k ≠ fb) : KpV n₀ sb vb fb A B :=
  ⟨(Below.refl _ A).grown hg hn (fun k e => (hr k e).1), hg.block _ hlt.1 (fun e => (hr _ e.symm).2.1 rfl), hg.block _ hlt.2.1 (fun e => (hr _ e.symm).2.2.1 rfl), hg.block _ hlt.2.2 (fun e => (hr _ e.symm).2.2.2 rfl)⟩
/-- between two rounds of Split's loop -/
def InS (n₀ lb H : Nat) (w0 : World) (xs : List (Int × Int)) (W : World) : Prop :=
  (∃ v, Boxed W lb 22 v ∧ W.ownsRow H 24 2 v xs.length (rowQ xs) ∧ True) ∧ Below n₀ w0 W ∧ H ≤ W.heap.size
theorem InS.own {n₀ lb H : Nat} {w0 : World} (h0 : n₀ ≤ H) : OwnFrom H (InS n₀ lb H w0) := fun s X Y row hs hg hr =>
  ⟨holdsRow_own H lb 22 24 2 (fun s : List (Int × Int) => s.length) rowQ (fun _ _ => True) s X Y row hs.1 hg (fun r e => (hr r e).2), hs.2.1.grown hg (by have := hs.2.2; omega) (fun k e => by have := (hr k e).1; omega), Nat.le_trans hs.2.2 hg.size⟩
theorem InS.turn {n₀ lb H vb : Nat} {w0 : World} (h0 : n₀ ≤ vb) (h1 : vb < H) (hne : lb ≠ vb) : ∀ s A B, InS n₀ lb H w0 s A → A.grownBy B (some vb) → InS n₀ lb H w0 s B := fun s A B hs hg => by
  obtain ⟨⟨v, hv, hr, _⟩, hb, hz⟩ := hs
  exact ⟨⟨v, hv.kept hg (fun e => hne (by injection e)), hr.kept hg (.inr fun e => by have := (hr.lt _ e).1; omega), trivial⟩, hb.grown hg (by omega) (fun k e => by injection e with e; omega), Nat.le_trans hz hg.size⟩

theorem boxed_push {W w3 : World} {lb H k c : Nat} {A : Option Addr} {xs : List Value} {o : Obj} (hv : Boxed W lb 22 (.slice A k c)) (hO : W.ownsRow H 24 2 (.slice A k c) k xs) (hg : (W.alloc o).grownBy w3 (Value.slice A k c).ownBlock) : Boxed w3 lb 22 (.slice A k c) :=
  (hv.alloc o).kept hg ((hv.alloc o).not_row (by decide) (hO.alloc o))
theorem one_two (a b : Int) : ∀ u ∈ [Value.int .i64 a, Value.int .i64 b], u.oneCell' = true := by
  intro u hu
  simp at hu
  rcases hu with rfl | rfl <;> rfl

theorem InS.push {n₀ lb H sb vb fb k : Nat} {w0 W w3 : World} {pre : List (Int × Int)} {x : Int × Int} {A1 A3 : Option Addr} {c1 c3 : Nat} {o : Obj} (act : Act) (hk : k = pre.length) (hlb : n₀ ≤ lb ∧ lb < sb ∧ lb < vb ∧ lb < fb) (hH : sb < H ∧ vb < H ∧ fb < H) (hb : Below n₀ w0 W) (hz : H ≤ W.heap.size)
    (hO : W.ownsRow H 24 2 (.slice A1 k c1) k (rowQ pre)) (hg : (W.alloc o).grownBy w3 (Value.slice A1 k c1).ownBlock) (hv3 : Boxed w3 lb 22 (.slice A1 k c1))
    (hO3 : w3.ownsRow H 24 2 (.slice A3 (k + 1) c3) (k + 1) (rowQ pre ++ [.int .i64 x.1, .int .i64 x.2])) :
    ownPostG H (KpV n₀ sb vb fb) (InS n₀ lb H w0) (fun _ _ _ => False) (pre ++ [x]) W .normal act (w3.setCell ⟨lb, 0, none⟩ (.slice A3 (k + 1) c3)) := by
  subst hk
  have hs := hg.size
  simp at hs
  have hg4 := grownBy_setCell' w3 lb (.slice A3 (pre.length + 1) c3)
  have hz3 := hg4.size
  refine ⟨(((KeepsOthers.alloc _ _).trans (KeepsOthers.of_grownBy hg ?_)).trans (KeepsOthers.setCell _ _ _)).from _, ((KpV.grown (World.grownBy_alloc W o none) (by omega) (by omega) (fun k e => by cases e)).trans (KpV.grown hg (by simp; omega) (by simp; omega) (fun k e => by have := (hO.lt k e).1; omega))).trans (KpV.grown hg4 (by omega) (by omega) (fun k e => by injection e with e; omega)), ⟨_, hv3.set _, ?_, trivial⟩, ?_, by omega⟩
  · intro j o' hj ho'
    rcases (hO.alloc o).2 with ⟨e, _⟩ | ⟨g, cap, cur, e, _, hgb, _⟩
    · rw [e] at hj; cases hj
    · rw [e] at hj
      obtain rfl : g = j := by simpa [Value.ownBlock] using hj
      rw [hgb] at ho'
      cases ho'
      rfl
  · have := hO3.kept hg4 (.inr fun e => hv3.not_row (by decide) hO3 e.symm)
    rw [rowQ_snoc] at this
    rw [List.length_append]
    exact this
  · exact ((hb.alloc (by omega) o).grown hg (by simp; omega) (fun k e => by have := (hO.lt k e).1; omega)).grown hg4 (by omega) (fun k e => by injection e with e; omega)

theorem results_slice {fn : Func} {p u : Tmp} (h : fn.results = #[.cell p 22, .tmp u]) (tmps : Array Value) (w : World) (g : Nat) (t : TypeId) (v : Value)
    (hp : tmps.getD p undef = .pointer (some ⟨g, 0, none⟩)) (hg : Blk w g t #[v]) :
    (results fn tmps).run Try.prog w = .ok (.tuple #[v, tmps.getD u undef]) w := by
  have hp' : tmps[p]?.getD undef = .pointer (some ⟨g, 0, none⟩) := by simpa using hp
  have hc : w.cell? ⟨g, 0, none⟩ = some v := hg.cell 0
  rw [results_cell_tmp h]
  simp [hp', asAddr, loadVar, hc, go_sem]

set_option maxRecDepth 100000 in
set_option maxHeartbeats 8000000 in
theorem Split_16c (L S : Int) (A : Option Addr) (n c B : Nat) (P : Nat → Int) (w : World) (hm : n ≤ 9223372036854775807) (hB : B ≤ w.heap.size) (hr : Rd w B A n fun k => .int .i64 (P k)) :
    Calls Try.prog 16 #[.agg #[.int .i64 L, .int .i64 S], .slice A n c] w fun e w' => SplRc (splE L S n P) n P (splS L S P) e w' ∧ Below w.heap.size w w' := by
  have HR := Lib.hid hr
  clear hr
  have HNIL : Hid (∀ (E : Int) (w' : World), E ≠ 0 → SplRc E n P (splS L S P) (.returned (.tuple #[.slice none 0 0, .int .i64 E])) w') := Lib.hid fun E w' hE =>
    ⟨none, 0, 0, rfl, by rw [if_neg hE], Rd.nil, Nat.le_refl _⟩
  refine (callsIn_wide (n := 3)).1 (callsIn_of_wp_marks Try.func16 rfl trivial (wpIn_wide.2 ?_))
  simp only [Try.ntmps16, List.size_toArray, List.length_cons, List.length_nil, Nat.reduceAdd, Nat.reduceSub, Array.replicate_succ, Array.replicate_zero, List.push_toArray, List.append_toArray, List.nil_append, List.cons_append]
  by_cases hn : 64 < n
  · have hn' : (64 : Int) < n := by omega
    have HE : Hid (splE L S n P = 2) := Lib.hid (by rw [splE, if_pos hn])
    go_wp2_with fail
    refine bodyPostM_ret (results_slice rfl _ _ (w.heap.size + 1) 22 (.slice none 0 0) rfl (by have := Blk.new (w.alloc (.cells #[.int .i64 L, .int .i64 S] 24)) 22 #[.slice none 0 0]; rw [World.size_alloc] at this; exact this)) rfl ?_
    exact ⟨HE.out.symm ▸ HNIL.out 2 _ (by decide), by (repeat (first | exact Below.refl _ _ | exact below_alloc _ _ | refine Below.alloc ?_ (by simp; omega) _ | refine Below.alloc ?_ (by simp) _))⟩
  have hn' : (n : Int) ≤ 64 := by omega
  go_upto_region 3 with fail
  obtain ⟨w3, hw3⟩ : ∃ zz, zz = (w.alloc (.cells #[.int .i64 L, .int .i64 S] 24)).alloc (.cells #[.slice none 0 0] 22) := ⟨_, rfl⟩
  have HW3 : Hid (Blk w3 w.heap.size 24 #[.int .i64 L, .int .i64 S]) := Lib.hid (hw3 ▸ (Blk.new _ _ _).alloc _)
  have HL3 : Hid (Blk w3 (w.heap.size + 1) 22 #[.slice none 0 0]) := Lib.hid (by have := Blk.new (w.alloc (.cells #[.int .i64 L, .int .i64 S] 24)) 22 #[.slice none 0 0]; rw [World.size_alloc] at this; rw [hw3]; exact this)
  have HB3 : Hid (Below w.heap.size w w3) := Lib.hid (by rw [hw3]; (repeat (first | exact Below.refl _ _ | exact below_alloc _ _ | refine Below.alloc ?_ (by simp; omega) _ | refine Below.alloc ?_ (by simp) _)))
  rw [← hw3]
  clear hw3
  have hs3 := HL3.out.lt
  have cw0 : w3.cell? ⟨w.heap.size, 0, none⟩ = some (.int .i64 L) := HW3.out.cell 0
  have cw1 : w3.cell? ⟨w.heap.size, 1, none⟩ = some (.int .i64 S) := HW3.out.cell 1
  go_wp2_with fail
  refine (right_25 _ _ _).mono ?_
  rintro e w4 ⟨rfl, hb4⟩
  have HB4 := Lib.hid (HB3.out.trans (hb4.mono (by omega)))
  have HW4 := Lib.hid (HW3.out.below hb4 (by omega))
  have HL4 := Lib.hid (HL3.out.below hb4 (by omega))
  clear hb4 HB3 HW3 HL3 cw0 cw1
  have hs4 := HL4.out.lt
  have cw0 : w4.cell? ⟨w.heap.size, 0, none⟩ = some (.int .i64 L) := HW4.out.cell 0
  have cw1 : w4.cell? ⟨w.heap.size, 1, none⟩ = some (.int .i64 S) := HW4.out.cell 1
  have cl : w4.cell? ⟨w.heap.size + 1, 0, none⟩ = some (.slice none 0 0) := HL4.out.cell 0
  have fl := HL4.out.frozen 0
  cases h1 : rt L S
  · have HE : Hid (splE L S n P = 430) := Lib.hid (by rw [splE, if_neg hn, if_pos h1])
    clear h1
    go_wp2_with fail
    refine bodyPostM_ret (results_slice rfl _ _ (w.heap.size + 1) 22 (.slice none 0 0) rfl (HL4.out.set_ 0 (.slice none 0 0))) rfl ?_
    exact ⟨HE.out.symm ▸ HNIL.out 430 _ (by decide), HB4.out.setCell (p := ⟨w.heap.size + 1, 0, none⟩) (by simp) _⟩
  have H1 := Lib.hid h1
  obtain ⟨⟨a1, a2⟩, ⟨a3, a4⟩, a5⟩ := rt_iff.1 h1
  clear h1 a5
  go_upto_region 5 with fail
  have HR4 : Hid (Rd w4 B A n fun k => .int .i64 (P k)) := Lib.hid (HR.out.below (HB4.out.mono hB))
  cases h1 : limB P n
  · have HE : Hid (splE L S n P = 1) := Lib.hid (by rw [splE, if_neg hn, if_neg (by rw [H1.out]; simp), if_neg (by rw [h1]; simp)])
    have HLM : Hid (∀ k, Calls Try.prog 27 #[.slice A n c] (w4.drewN k) fun e w' => e = .returned (.bool false) ∧ w4.drewN k = w') := Lib.hid fun k => h1 ▸ limited_27 A n c B P _ hm (HR4.out.drewN k)
    clear h1
    go_quiet ((go_at_call 27; exact quiet_l (HLM.out _)))
    have HB5 := Lib.hid (show Below w.heap.size w (w4.drewN nq) from below_quiet HB4.out ⟨nq, rfl⟩)
    have HL5 := Lib.hid (HL4.out.drewN nq)
    clear cw0 cw1 cl fl
    generalize w4.drewN nq = w5 at HB5 HL5 ⊢
    have cl : w5.cell? ⟨w.heap.size + 1, 0, none⟩ = some (.slice none 0 0) := HL5.out.cell 0
    have fl := HL5.out.frozen 0
    go_wp2_with fail
    refine bodyPostM_ret (results_slice rfl _ _ (w.heap.size + 1) 22 (.slice none 0 0) rfl (HL5.out.set_ 0 (.slice none 0 0))) rfl ?_
    exact ⟨HE.out.symm ▸ HNIL.out 1 _ (by decide), HB5.out.setCell (p := ⟨w.heap.size + 1, 0, none⟩) (by simp) _⟩
  have HP : Hid (∀ k, k < n → 0 ≤ P k ∧ P k ≤ 1073741824) := Lib.hid (limB_at n h1)
  have HLM : Hid (∀ k, Calls Try.prog 27 #[.slice A n c] (w4.drewN k) fun e w' => e = .returned (.bool true) ∧ w4.drewN k = w') := Lib.hid fun k => h1 ▸ limited_27 A n c B P _ hm (HR4.out.drewN k)
  have HTO : Hid (∀ k, Calls Try.prog 26 #[.slice A n c] (w4.drewN k) fun e w' => e = .returned (.int .i64 (sm P n)) ∧ w4.drewN k = w') := Lib.hid fun k => total_26 A n c B P _ (by omega) (HR4.out.drewN k) HP.out
  have H2 := Lib.hid h1
  clear h1
  generalize hsm : sm P n = s at HTO
  have HSM := Lib.hid hsm
  clear hsm
  go_quiet (first | (go_at_call 27; exact quiet_l (HLM.out _)) | (go_at_call 26; exact quiet_l (HTO.out _)))
  have HB5 := Lib.hid (show Below w.heap.size w (w4.drewN nq) from below_quiet HB4.out ⟨nq, rfl⟩)
  have HL5 := Lib.hid (HL4.out.drewN nq)
  have HW5 := Lib.hid (HW4.out.drewN nq)
  clear cw0 cw1 cl fl HLM HTO
  generalize w4.drewN nq = w5 at HB5 HL5 HW5 ⊢
  have cw0 : w5.cell? ⟨w.heap.size, 0, none⟩ = some (.int .i64 L) := HW5.out.cell 0
  have cw1 : w5.cell? ⟨w.heap.size, 1, none⟩ = some (.int .i64 S) := HW5.out.cell 1
  have cl : w5.cell? ⟨w.heap.size + 1, 0, none⟩ = some (.slice none 0 0) := HL5.out.cell 0
  have fl := HL5.out.frozen 0
  have hs5 := HL5.out.lt
  by_cases hsl : s = L
  · have HE : Hid (splE L S n P = 0) := Lib.hid (by rw [splE, if_neg hn, if_neg (by rw [H1.out]; simp), if_pos ⟨H2.out, HSM.out.trans hsl⟩])
    subst hsl
    go_wp2_with fail
    refine (parts_32 _ _ _ _ _ _).mono ?_
    rintro e U ⟨sb, vb, fb, hsb, hvb, hfb, hsv, hsf, hvf, rfl, bs, bv, bf, hbU⟩
    go_wp2_with fail
    have HBU := Lib.hid (HB5.out.trans (hbU.mono (by omega)))
    have HLU : Hid (Boxed U (w.heap.size + 1) 22 (.slice none 0 0)) := Lib.hid (HL5.out.below hbU hs5)
    have HSEQ : Hid (SeqV Fence.wide 2 Try.prog 34 #[.pointer (some ⟨sb, 0, none⟩), .pointer (some ⟨fb, 0, none⟩)] (fun x : Int × Int => #[.agg #[.int .i64 x.1, .int .i64 x.2]]) (KpV w.heap.size sb vb fb) (fun xs => xs = splL s S P n) n vb U) :=
      Lib.hid (parts_seq 2 sb vb fb w.heap.size s S P A n c B ⟨a1, a2⟩ ⟨a3, a4⟩ HP.out HSM.out (by omega) hsv (Ne.symm hvf) (by omega) hB U bs bv bf (HR.out.below (HBU.out.mono hB)))
    have hzs := bs.lt
    have hzv := bv.lt
    have hzf := bf.lt
    have hzU : w5.heap.size ≤ U.heap.size := hbU.size
    clear bs bv bf hbU cw0 cw1 cl fl HB5 HL5 HW5
    obtain ⟨i0, hi, hz0, hz1, hz2⟩ := info_parts info24
    refine (wpIn_wide (n := 3)).1 ?_
    refine wpIn_rangeFunc_V (F := Fence.wide) (n := 3) rfl (by omega) (gf := 34) (lb := #[.pointer (some ⟨sb, 0, none⟩), .pointer (some ⟨fb, 0, none⟩)]) rfl trivial (enters_of Try.func34 (by kernel_rfl) rfl)
      HSEQ.out hzv (fun h k => h.trans k) ?hKb (Below.refl _ _) (fun _ => rfl)
      (InS w.heap.size (w.heap.size + 1) U.heap.size w) (InS.own (by omega)) (InS.turn (by omega) hzv (by omega)) ?h0
      (fun x a' W' => ∃ xb, U.heap.size ≤ xb ∧ Blk W' xb 24 #[.int .i64 x.1, .int .i64 x.2] ∧ a' = { tmps := #[.agg #[.int .i64 s, .int .i64 S], .slice A n c, .pointer (some ⟨w.heap.size, 0, none⟩), undef, .pointer (some ⟨w.heap.size + 1, 0, none⟩), .int .i64 0, .pointer (some ⟨xb, 0, none⟩), .slice A n c, .int .i64 n, .bool (decide (64 < (n : Int))), .agg #[.int .i64 s, .int .i64 S], .bool true, .bool false, .slice A n c, .bool true, .bool false, .bool false, .slice A n c, .int .i64 s, .pointer (some ⟨w.heap.size, 0, none⟩), .int .i64 s, .bool false, .bool false, .agg #[.int .i64 s, .int .i64 S], .slice A n c, .func (.func 34) #[] #[.pointer (some ⟨sb, 0, none⟩), .pointer (some ⟨fb, 0, none⟩)], .agg #[.int .i64 x.1, .int .i64 x.2], undef, undef, undef, undef, undef], defers := [] })
      ?hAx ?assign ?body ?done
    case hKb =>
      intro W' l o o' hl ho hc _
      exact ⟨below_putObj (Below.refl _ _) (by omega) _, World.putObj_heap_other (by omega), World.putObj_heap_other (by omega), World.putObj_heap_other (by omega)⟩
    case h0 => exact ⟨⟨_, HLU.out, World.ownsRow_nil _ _ _ _, trivial⟩, HBU.out, Nat.le_refl _⟩
    case hAx =>
      rintro x a' _ X Y row ⟨xb, hxb, hx, rfl⟩ hg hr
      refine ⟨xb, hxb, (hg.block xb hx.lt (fun e => ?_)).trans hx, rfl⟩
      obtain ⟨o, ho, hc⟩ := (hr xb e.symm).2
      rw [show X.heap[xb]? = _ from hx] at ho
      cases ho
      cases hc
    case assign =>
      intro l pre x W' K hI hK
      gi_wp2
      exact hK _ _ ((KeepsOthers.alloc _ _).from _) (KpV.grown (World.grownBy_alloc W' _ none) (by have := hI.2.2; omega) (by have := hI.2.2; omega) (fun k e => by cases e)) ((InS.own (by omega)).alloc _ hI) ⟨_, hI.2.2, Blk.new _ _ _, rfl⟩
    case body =>
      rintro l pre x a' W' hl _ hI ⟨xb, hxb, hx, rfl⟩ hpre
      obtain ⟨⟨v, hv, hown, _⟩, hbW, hzW⟩ := hI
      obtain ⟨A1, c1, hv1⟩ := own_form hown
      subst hv1
      have HV := Lib.hid hv
      have HX := Lib.hid hx
      have HO := Lib.hid hown
      have HBW := Lib.hid hbW
      have x0 : W'.cell? ⟨xb, 0, none⟩ = some (.int .i64 x.1) := hx.cell 0
      have x1 : W'.cell? ⟨xb, 1, none⟩ = some (.int .i64 x.2) := hx.cell 1
      have cl : W'.cell? ⟨w.heap.size + 1, 0, none⟩ = some (.slice A1 pre.length c1) := hv.cell
      clear hv hx hown hbW
      gi_wp2_with (gi_at_builtin; refine wpListIn_append_own_at _ rfl _ _ 22 rfl U.heap.size 24 i0 (.agg #[.int .i64 0, .int .i64 0]) 2 16 Try.underlying22 hi hz0 hz1 hz2 rfl (by decide) (.slice A1 pre.length c1) pre.length (rowQ pre) rfl (HO.out.alloc _) ⟨_, 0, none⟩ 1 1 [.int .i64 x.1, .int .i64 x.2] rfl rfl (cell_two_new _ _ _ _) (one_two _ _) (by unfold maxLen; omega) (by omega) (by simp; omega) ?_; intro vv w3 hown3 hgrow3 _ _; obtain ⟨A3, c3, hvv⟩ := own_form hown3; subst hvv; have HV3 : Hid (Boxed w3 (w.heap.size + 1) 22 (.slice A1 pre.length c1)) := Lib.hid (boxed_push HV.out HO.out hgrow3); have cl3 : w3.cell? ⟨w.heap.size + 1, 0, none⟩ = some (.slice A1 pre.length c1) := HV3.out.cell; have fl3 := HV3.out.frozen)
      rename_i hgrow3' _ _
      exact InS.push _ rfl (by omega) (by omega) HBW.out hzW HO.out hgrow3 HV3.out hown3
    case done =>
      rintro D xs W' hD rfl hI hKD
      obtain ⟨⟨v, hv, hown, _⟩, hbW, hzW⟩ := hI
      rw [splL_length] at hown
      obtain ⟨A1, c1, hv1⟩ := own_form hown
      subst hv1
      have HV := Lib.hid hv
      have HO := Lib.hid hown
      have HBW := Lib.hid hbW
      have HKD := Lib.hid hKD
      have cl : W'.cell? ⟨w.heap.size + 1, 0, none⟩ = some (.slice A1 n c1) := hv.cell
      have fl := hv.frozen
      clear hv hown hbW hKD
      go_wp2_with fail
      have HRW : Hid (Rd W' W'.heap.size A1 (n * 2) (ptc P (splS s S P))) := Lib.hid (Rd.of_own HO.out (fun j hj => by rw [rowQ_splL]; exact rowP_at P (splS s S P) n j hj))
      have hDl : D < W'.heap.size := (Array.getElem?_eq_some_iff.1 HKD.out).1
      have hg1 := grownBy_setCell' W' (w.heap.size + 1) (.slice A1 n c1)
      have HV1 : Hid (Boxed (W'.setCell ⟨w.heap.size + 1, 0, none⟩ (.slice A1 n c1)) (w.heap.size + 1) 22 (.slice A1 n c1)) := Lib.hid (HV.out.set _)
      have HB1 := Lib.hid (HBW.out.setCell (p := ⟨w.heap.size + 1, 0, none⟩) (by simp) (.slice A1 n c1))
      have HO1 := Lib.hid (HO.out.kept hg1 (.inr fun e => HV.out.not_row (by decide) HO.out e.symm))
      have HD1 : Hid ((W'.setCell ⟨w.heap.size + 1, 0, none⟩ (.slice A1 n c1)).heap[D]? = some (.deferred (some []))) := Lib.hid ((hg1.block D hDl (fun e => by injection e with e; omega)).trans HKD.out)
      clear hg1 HRW
      generalize W'.setCell ⟨w.heap.size + 1, 0, none⟩ (.slice A1 n c1) = W1 at HV1 HB1 HO1 HD1 ⊢
      have HO2 := ownsRow_putObj HO1.out (.deferred none) HD1.out rfl
      refine leaves_one (v := .tuple #[.slice A1 n c1, .int .i64 0]) HD1.out ?_ ?_
      · refine results_slice (p := 4) (u := 5) rfl _ _ (w.heap.size + 1) 22 (.slice A1 n c1) ?_ (blk_putObj HV1.out (show w.heap.size + 1 ≠ D by omega) _)
        rfl
      · exact ⟨HE.out.symm ▸ ⟨A1, n, c1, rfl, by simp, Rd.of_own HO2 (fun j hj => by rw [rowQ_splL]; exact rowP_at P (splS s S P) n j hj), own_cap HO2⟩, below_putObj HB1.out (by omega) _⟩
  · have HE : Hid (splE L S n P = 1) := Lib.hid (by rw [splE, if_neg hn, if_neg (by rw [H1.out]; simp), if_neg (by rw [HSM.out]; exact fun h => hsl h.2)])
    have hne : (s == L) = false := by simpa using hsl
    go_wp2_with fail
    refine bodyPostM_ret (results_slice rfl _ _ (w.heap.size + 1) 22 (.slice none 0 0) rfl (HL5.out.set_ 0 (.slice none 0 0))) rfl ?_
    exact ⟨HE.out.symm ▸ HNIL.out 1 _ (by decide), HB5.out.setCell (p := ⟨w.heap.size + 1, 0, none⟩) (by simp) _⟩
theorem Split_16 (L S : Int) (A : Option Addr) (n c B : Nat) (P : Nat → Int) (w : World) (hm : n ≤ 9223372036854775807) (hB : B ≤ w.heap.size) (hr : Rd w B A n fun k => .int .i64 (P k)) :
    Calls Try.prog 16 #[.agg #[.int .i64 L, .int .i64 S], .slice A n c] w fun e w' => SplR (splE L S n P) n P (splS L S P) e w' ∧ Below w.heap.size w w' :=
  (Split_16c L S A n c B P w hm hB hr).mono fun _ _ ⟨⟨A', n', c', he, hn, hr, _⟩, hb⟩ => ⟨⟨A', n', c', he, hn, hr⟩, hb⟩
end Go.Proofs.Ythmebjbaigiehaa
