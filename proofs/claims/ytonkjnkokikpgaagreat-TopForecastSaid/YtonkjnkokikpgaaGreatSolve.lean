/- Contract of solve. -/
import Derived.Test.YtonkjnkokikpgaaGreatBack
import Derived.Laws.ResultCell
import Derived.RangeFuncBox
import Derived.Shelf.RegionOpen
namespace Go.Proofs.YtonkjnkokikpgaaGreat
open Go.RowKit

attribute [local go_sem] Oper.semAt_some

/-- the mark that a range over a function leaves -/
def markD (D : Nat) : Deferred := { target := .collected D, args := #[] }
theorem below_putObj {B : Nat} {w W : World} (h : Below B w W) {D : Nat} (hD : B ≤ D) (o : Obj) : Below B w (W.putObj D o) :=
  h.trans ⟨rfl, rfl, rfl, by simp [World.putObj], fun k hk => World.putObj_heap_other (by omega)⟩
theorem blk_putObj {W : World} {D g : Nat} {t : TypeId} {cs : Array Value} (h : Blk W g t cs) (hD : g ≠ D) (o : Obj) : Blk (W.putObj D o) g t cs := by
  unfold Blk at h ⊢
  rw [World.putObj_heap_other hD]
  exact h
theorem bodyPostM_ret {F : Fence} {n : Nat} {P : Program} {fn : Func} {R : Ending → World → Prop} {a : Act} {w : World} {v : Value}
    (hr : (results fn a.tmps).run P w = .ok v w) (hd : a.defers = []) (hR : R (.returned v) w) : bodyPostM F n P fn R .ret a w := by
  show LeavesInM F n P fn a.tmps R a.defers .returning w
  rw [hd]
  exact ⟨_, hr, hR⟩
/-- leaving a function behind one range over a function in whose body no call was deferred -/
theorem leaves_one {F : Fence} {m : Nat} {P : Program} {fn : Func} {tmps : Array Value} {R : Ending → World → Prop} {v : Value} {D : Nat} {W : World}
    (hD : W.heap[D]? = some (.deferred (some []))) (hres : (results fn tmps).run P (W.putObj D (.deferred none)) = .ok v (W.putObj D (.deferred none))) (hR : R (.returned v) (W.putObj D (.deferred none))) : LeavesInM F m P fn tmps R [markD D] .returning W :=
  ⟨by simp, .inl ⟨D, _, rfl, run_takeDeferred hD, ⟨_, hres, hR⟩⟩⟩
theorem ownFrom_blocks {β : Type} {B : Nat} {I : β → World → Prop} (h : ∀ s X Y, I s X → Below B X Y → I s Y) (hsz : ∀ s X, I s X → B ≤ X.heap.size) : OwnFrom B I :=
  fun s X Y _ hs hg hr => h s X Y hs ⟨hg.os, hg.tape, hg.output, hg.size, fun k hk => hg.block k (by have := hsz s X hs; omega) (fun e => by have := (hr k e.symm).1; omega)⟩

/-- from the k-th on, the row holds what may remain -/
def RowS (cs : Array Value) (n k : Nat) (f : Nat → Int × Int) : Prop := cs.size = n * 2 ∧ ∀ j, k ≤ j → j < n → cs[j * 2]? = some (.int .i64 (f j).1) ∧ cs[j * 2 + 1]? = some (.int .i64 (f j).2)
theorem RowS.set_ {cs : Array Value} {n k : Nat} {f : Nat → Int × Int} (h : RowS cs n (k + 1) f) (hk : k < n) : RowS ((cs.setIfInBounds (k * 2) (.int .i64 (f k).1)).setIfInBounds (k * 2 + 1) (.int .i64 (f k).2)) n k f := by
  obtain ⟨h1, h2⟩ := h
  refine ⟨by simp [h1], fun j hj hj2 => ?_⟩
  by_cases e : j = k
  · subst e
    exact ⟨by rw [set_off _ (by omega)]; exact set_at _ (by omega), set_at _ (by simp; omega)⟩
  · rw [set_off _ (by omega), set_off _ (by omega), set_off _ (by omega), set_off _ (by omega)]
    exact h2 j (by omega) hj2
theorem RowS.rd {W : World} {g n B : Nat} {cs : Array Value} {t : TypeId} {f : Nat → Int × Int} (h : Blk W g t cs) (hB : g < B) (hr : RowS cs n 0 f) : Rd W B (some ⟨g, 0, none⟩) (n * 2) (rsc f) := fun _ =>
  ⟨_, _, rfl, hB, fun j hj => by
    rw [h.cell, Nat.zero_add]
    obtain ⟨a, b⟩ := hr.2 (j / 2) (by omega) (by omega)
    unfold rsc
    split
    · rename_i e; rw [← a]; congr 1; omega
    · rename_i e; rw [← b]; congr 1; omega⟩
/-- between two rounds of solve's loop -/
def InR (U : World) (ra rr : Nat) (n : Nat) (a r : Nat → Int × Int) (n₀ : Nat) (pre : List Nat) (W : World) : Prop :=
  (∃ cs ct, Blk W ra 53 cs ∧ RowR cs n (n - pre.length) r ∧ Blk W rr 53 ct ∧ RowS ct n (n - pre.length) a) ∧ KpR n₀ ra rr U W ∧ U.heap.size ≤ W.heap.size
theorem InR.below {U : World} {ra rr n n₀ : Nat} {a r : Nat → Int × Int} {pre : List Nat} {W W' : World} (h : InR U ra rr n a r n₀ pre W) (hb : Below U.heap.size W W') (hx : ra < U.heap.size ∧ rr < U.heap.size) (hn : n₀ ≤ U.heap.size) : InR U ra rr n a r n₀ pre W' := by
  obtain ⟨⟨cs, ct, h1, h2, h3, h4⟩, h5, h6⟩ := h
  exact ⟨⟨cs, ct, h1.below hb hx.1, h2, h3.below hb hx.2, h4⟩, ⟨h5.1.trans (hb.mono hn), fun k t cs e1 e2 hk => (h5.2 k t cs e1 e2 hk).below hb hk.lt⟩, Nat.le_trans h6 hb.size⟩

theorem KpR.alloc {n₀ ra rr : Nat} {W : World} (h : n₀ ≤ W.heap.size) (o : Obj) : KpR n₀ ra rr W (W.alloc o) := ⟨(Below.refl _ W).alloc h o, fun _ _ _ _ _ hb => hb.alloc o⟩
theorem KpR.set_ {n₀ ra rr : Nat} {W : World} {p : Addr} (hn : n₀ ≤ p.block) (hp : p.block = ra ∨ p.block = rr) (v : Value) : KpR n₀ ra rr W (W.setCell p v) :=
  ⟨(Below.refl _ W).setCell hn v, fun k t cs h1 h2 hb => hb.far (by rcases hp with e | e <;> rw [e] <;> assumption) v⟩
theorem KpR.drew {n₀ ra rr : Nat} (W : World) : KpR n₀ ra rr W W.drew := ⟨(Below.refl _ W).drew, fun _ _ _ _ _ hb => hb⟩

theorem InR.push {U : World} {ra rr n n₀ x : Nat} {a r : Nat → Int × Int} {pre : List Nat} {W : World} (act : Act) (h : InR U ra rr n a r n₀ pre W) (hx : x < n) (hl : pre.length = n - 1 - x) (ha : n₀ ≤ ra) (hr : n₀ ≤ rr) (hne : ra ≠ rr) :
    ownPostG U.heap.size (KpR n₀ ra rr) (InR U ra rr n a r n₀) (fun _ _ _ => False) (pre ++ [x]) W .normal act ((((W.drew.setCell ⟨rr, x * 2, none⟩ (.int .i64 (a x).1)).setCell ⟨rr, x * 2 + 1, none⟩ (.int .i64 (a x).2)).setCell ⟨ra, x * 2, none⟩ (.int .i64 (r x).1)).setCell ⟨ra, x * 2 + 1, none⟩ (.int .i64 (r x).2)) := by
  have hk : KpR n₀ ra rr W ((((W.drew.setCell ⟨rr, x * 2, none⟩ (.int .i64 (a x).1)).setCell ⟨rr, x * 2 + 1, none⟩ (.int .i64 (a x).2)).setCell ⟨ra, x * 2, none⟩ (.int .i64 (r x).1)).setCell ⟨ra, x * 2 + 1, none⟩ (.int .i64 (r x).2)) :=
    ((((KpR.drew W).trans (KpR.set_ (p := ⟨rr, x * 2, none⟩) hr (.inr rfl) _)).trans (KpR.set_ (p := ⟨rr, x * 2 + 1, none⟩) hr (.inr rfl) _)).trans (KpR.set_ (p := ⟨ra, x * 2, none⟩) ha (.inl rfl) _)).trans (KpR.set_ (p := ⟨ra, x * 2 + 1, none⟩) ha (.inl rfl) _)
  obtain ⟨⟨cs, ct, h1, h2, h3, h4⟩, h5, h6⟩ := h
  rw [show n - pre.length = x + 1 by omega] at h2 h4
  have hd : KeepsOthers W W.drew := ⟨Nat.le_refl _, fun k o h _ => h⟩
  have g1 := ((((h1.drewN 1).far (p := ⟨rr, x * 2, none⟩) hne (.int .i64 (a x).1)).far (p := ⟨rr, x * 2 + 1, none⟩) hne (.int .i64 (a x).2)).set_ (x * 2) (.int .i64 (r x).1)).set_ (x * 2 + 1) (.int .i64 (r x).2)
  have g3 := ((((h3.drewN 1).set_ (x * 2) (.int .i64 (a x).1)).set_ (x * 2 + 1) (.int .i64 (a x).2)).far (p := ⟨ra, x * 2, none⟩) (fun e => hne e.symm) (.int .i64 (r x).1)).far (p := ⟨ra, x * 2 + 1, none⟩) (fun e => hne e.symm) (.int .i64 (r x).2)
  have g2 := h2.set_ (show x ≤ n by omega)
  have g4 := h4.set_ hx
  have hl2 : n - (pre ++ [x]).length = x := by rw [List.length_append, List.length_singleton]; omega
  refine ⟨((((hd.trans (KeepsOthers.setCell _ _ _)).trans (KeepsOthers.setCell _ _ _)).trans (KeepsOthers.setCell _ _ _)).trans (KeepsOthers.setCell _ _ _)).from _, hk, ⟨⟨_, _, g1, ?_, g3, ?_⟩, h5.trans hk, Nat.le_trans h6 hk.1.size⟩⟩
  · rw [hl2]
    exact g2
  · rw [hl2]
    exact g4

section
variable {w : World} {o p : Obj} {t : TypeId} {cs : Array Value}
theorem three_0 : Blk (((w.alloc (.cells cs t)).alloc o).alloc p).drew w.heap.size t cs := (((Blk.new w t cs).alloc _).alloc _).drewN 1
theorem three_1 : Blk (((w.alloc o).alloc (.cells cs t)).alloc p).drew (w.heap.size + 1) t cs := by
  have h := Blk.new (w.alloc o) t cs
  rw [World.size_alloc] at h
  exact (h.alloc _).drewN 1
theorem three_2 : Blk (((w.alloc o).alloc p).alloc (.cells cs t)).drew (w.heap.size + 1 + 1) t cs := by
  have h := Blk.new ((w.alloc o).alloc p) t cs
  rw [World.size_alloc, World.size_alloc] at h
  exact h.drewN 1
theorem three_b {q : Obj} : Below w.heap.size w (((w.alloc o).alloc p).alloc q).drew := (((below_alloc w _).alloc (by simp) _).alloc (by simp; omega) _).drew
end

set_option maxRecDepth 100000 in
set_option maxHeartbeats 8000000 in
theorem solve_33 {PA : Option Addr} {n pc : Nat} {cp st fl : Int} {lo hi dm ou sp : Nat → Int} (B : Nat) (w : World) (hg : Good cp fl n lo hi dm ou sp) (hB : B ≤ w.heap.size) (hr : Rd w B PA (n * 5) (psc lo hi dm ou sp)) :
    Calls Tryz.prog 29 #[(.agg #[.int .i64 cp, .int .i64 st, .int .i64 fl, .slice PA n pc])] w fun e w' => (∃ A1 A2, e = .returned (.agg #[.int .i64 cp, .int .i64 st, .int .i64 fl, .slice PA n pc, .slice A1 (n + 1) (n + 1), .slice A2 n n]) ∧ Rd w' w'.heap.size A1 ((n + 1) * 2) (rsc (rb cp fl n lo hi dm ou sp)) ∧ Rd w' w'.heap.size A2 (n * 2) (rsc (rsr cp fl n lo hi dm ou sp))) ∧ Below w.heap.size w w' := by
  obtain ⟨F, hF⟩ : ∃ F, F = rsr cp fl n lo hi dm ou sp := ⟨_, rfl⟩
  obtain ⟨G, hG⟩ : ∃ G, G = rb cp fl n lo hi dm ou sp := ⟨_, rfl⟩
  rw [← hF, ← hG]
  have HFE := Lib.hid hF
  have HGE := Lib.hid hG
  clear hF hG
  refine (callsIn_wide (n := 3)).1 (callsIn_of_wp_marks Tryz.func29 rfl trivial (wpIn_wide.2 ?_))
  simp only [Tryz.ntmps29, List.size_toArray, List.length_cons, List.length_nil, Nat.reduceAdd, Nat.reduceSub, Array.replicate_succ, Array.replicate_zero, List.push_toArray, List.append_toArray, List.nil_append, List.cons_append]
  have HRD := Lib.hid hr
  have HG := Lib.hid hg
  have h64 : n ≤ 64 := hg.1
  clear hr hg
  go_upto_region 1 with fail
  obtain ⟨w0, hw0⟩ : ∃ zz, zz = (w.alloc (.cells #[.int .i64 cp, .int .i64 st, .int .i64 fl, .slice PA n pc] 30)).alloc (.cells #[.int .i64 0, .int .i64 0, .int .i64 0, .slice none 0 0, .slice none 0 0, .slice none 0 0] 82) := ⟨_, rfl⟩
  have HK0 : Hid (Blk w0 w.heap.size 30 #[.int .i64 cp, .int .i64 st, .int .i64 fl, .slice PA n pc]) := Lib.hid (hw0 ▸ (Blk.new _ _ _).alloc _)
  have HQ0 : Hid (Blk w0 (w.heap.size + 1) 82 #[.int .i64 0, .int .i64 0, .int .i64 0, .slice none 0 0, .slice none 0 0, .slice none 0 0]) := Lib.hid (by have := Blk.new (w.alloc (.cells #[.int .i64 cp, .int .i64 st, .int .i64 fl, .slice PA n pc] 30)) 82 #[.int .i64 0, .int .i64 0, .int .i64 0, .slice none 0 0, .slice none 0 0, .slice none 0 0]; rw [World.size_alloc] at this; rw [hw0]; exact this)
  have HB0 : Hid (Below w.heap.size w w0) := Lib.hid (by rw [hw0]; exact (below_alloc _ _).alloc (by simp) _)
  rw [← hw0]
  clear hw0
  have hs0 := HQ0.out.lt
  have hs00 : w.heap.size < w0.heap.size := by omega
  have hs01 : w.heap.size < w0.heap.size + 1 := by omega
  have hs02 : w.heap.size < w0.heap.size + 1 + 1 := by omega
  have hz0 := HB0.out.size
  have c0 : w0.cell? ⟨w.heap.size, 0, none⟩ = some (.int .i64 cp) := HK0.out.cell 0
  have c1 : w0.cell? ⟨w.heap.size, 1, none⟩ = some (.int .i64 st) := HK0.out.cell 1
  have c2 : w0.cell? ⟨w.heap.size, 2, none⟩ = some (.int .i64 fl) := HK0.out.cell 2
  have c3 : w0.cell? ⟨w.heap.size, 3, none⟩ = some (.slice PA n pc) := HK0.out.cell 3
  have c3' : w0.cell? ⟨w.heap.size, 2 + 1, none⟩ = some (.slice PA n pc) := HK0.out.cell 3
  have hmk1 : ∀ w, (Instr.makeSlice 41 (.int .i64 ((n : Int) + 1)) (.int .i64 ((n : Int) + 1))).run Tryz.prog w = .ok (.slice (some ⟨w.heap.size, 0, none⟩) (n + 1) (n + 1)) (w.alloc (.cells (madeCells #[.int .i64 0, .int .i64 0] ((n + 1) * 2)) 53)) := fun w => by
    have h := make_ranges (n + 1) (by omega) w
    rwa [show ((n + 1 : Nat) : Int) = (n : Int) + 1 by omega] at h
  have hmk2 : ∀ w, (Instr.makeSlice 41 (.int .i64 (n : Int)) (.int .i64 (n : Int))).run Tryz.prog w = .ok (.slice (some ⟨w.heap.size, 0, none⟩) n n) (w.alloc (.cells (madeCells #[.int .i64 0, .int .i64 0] (n * 2)) 53)) := fun w => make_ranges n (by omega) w
  have hw1 : IntKind.i64.wrap ((n : Int) + 1) = n + 1 := IntWalk.i64_in _ ⟨by omega, by omega⟩
  obtain ⟨cs0, hcs0⟩ : ∃ zz, zz = madeCells #[.int .i64 0, .int .i64 0] ((n + 1) * 2) := ⟨_, rfl⟩
  obtain ⟨ct0, hct0⟩ : ∃ zz, zz = madeCells #[.int .i64 0, .int .i64 0] (n * 2) := ⟨_, rfl⟩
  have hsz0 : cs0.size = (n + 1) * 2 := by rw [hcs0]; exact size_madeCells _ _
  have hst0 : ct0.size = n * 2 := by rw [hct0]; exact size_madeCells _ _
  rw [← hcs0] at hmk1
  rw [← hct0] at hmk2
  clear hcs0 hct0
  go_upto_region 2 with fail
  go_cut [4] from 10 (fun s4 wc => ∃ xb ra rr, s4 = .pointer (some ⟨xb, 0, none⟩) ∧ xb ≠ ra ∧ xb ≠ rr ∧ ra ≠ rr ∧ w0.heap.size ≤ xb ∧ w0.heap.size ≤ ra ∧ w0.heap.size ≤ rr ∧ Hid (Blk wc xb 82 #[.int .i64 cp, .int .i64 st, .int .i64 fl, .slice PA n pc, .slice (some ⟨ra, 0, none⟩) (n + 1) (n + 1), .slice (some ⟨rr, 0, none⟩) n n]) ∧ Hid (Blk wc ra 53 cs0) ∧ Hid (Blk wc rr 53 ct0) ∧ Hid (Below w0.heap.size w0 wc))
  case first =>
    go_region
    all_goals
      go_wp2_with fail
      go_meet
      case rel =>
        first
          | exact ⟨w0.heap.size + 1 + 1, w0.heap.size, w0.heap.size + 1, rfl, by omega, by omega, by omega, by omega, by omega, by omega, Lib.hid three_2, Lib.hid three_0, Lib.hid three_1, Lib.hid three_b⟩
          | exact ⟨w0.heap.size + 1, w0.heap.size, w0.heap.size + 1 + 1, rfl, by omega, by omega, by omega, by omega, by omega, by omega, Lib.hid three_1, Lib.hid three_0, Lib.hid three_2, Lib.hid three_b⟩
          | exact ⟨w0.heap.size + 1 + 1, w0.heap.size + 1, w0.heap.size, rfl, by omega, by omega, by omega, by omega, by omega, by omega, Lib.hid three_2, Lib.hid three_1, Lib.hid three_0, Lib.hid three_b⟩
          | exact ⟨w0.heap.size, w0.heap.size + 1, w0.heap.size + 1 + 1, rfl, by omega, by omega, by omega, by omega, by omega, by omega, Lib.hid three_0, Lib.hid three_1, Lib.hid three_2, Lib.hid three_b⟩
          | exact ⟨w0.heap.size + 1, w0.heap.size + 1 + 1, w0.heap.size, rfl, by omega, by omega, by omega, by omega, by omega, by omega, Lib.hid three_1, Lib.hid three_2, Lib.hid three_0, Lib.hid three_b⟩
          | exact ⟨w0.heap.size, w0.heap.size + 1 + 1, w0.heap.size + 1, rfl, by omega, by omega, by omega, by omega, by omega, by omega, Lib.hid three_0, Lib.hid three_2, Lib.hid three_1, Lib.hid three_b⟩
  case rest =>
    obtain ⟨xb, ra, rr, rfl, hxa, hxr, har, hx0, ha0, hr0, HX, HRA, HRR, HBL⟩ := hcut
    obtain ⟨w1, hyy⟩ : ∃ y, y = wc := ⟨_, rfl⟩
    subst hyy
    have HK1 := Lib.hid (HK0.out.below HBL.out HK0.out.lt)
    have HQ1 := Lib.hid (HQ0.out.below HBL.out hs0)
    have HB1 := Lib.hid (HB0.out.trans (HBL.out.mono hz0))
    clear HBL HK0 HQ0 HB0 hmk1 hmk2 c0 c1 c2 c3 c3'
    have hxl := HX.out.lt
    have hal := HRA.out.lt
    have hrl := HRR.out.lt
    have hqn : w.heap.size + 1 ≠ ra ∧ w.heap.size + 1 ≠ rr ∧ w.heap.size + 1 ≠ xb := by omega
    have hkn : w.heap.size ≠ ra ∧ w.heap.size ≠ rr ∧ w.heap.size ≠ xb := by omega
    have hxw : w.heap.size ≤ xb ∧ w.heap.size ≤ ra ∧ w.heap.size ≤ rr := by omega
    clear hs00 hs01 hs02 hs0 hz0 hx0 ha0 hr0
    clear w0
    obtain ⟨x0, hx0⟩ : ∃ x, cs0[n * 2]? = some x := ⟨_, Array.getElem?_eq_getElem (by omega)⟩
    obtain ⟨x1, hx1⟩ : ∃ x, cs0[n * 2 + 1]? = some x := ⟨_, Array.getElem?_eq_getElem (by omega)⟩
    have c0 : w1.cell? ⟨w.heap.size, 0, none⟩ = some (.int .i64 cp) := HK1.out.cell 0
    have c2 : w1.cell? ⟨w.heap.size, 2, none⟩ = some (.int .i64 fl) := HK1.out.cell 2
    have c2' : w1.cell? ⟨w.heap.size, 1 + 1, none⟩ = some (.int .i64 fl) := HK1.out.cell 2
    have c4 : w1.cell? ⟨xb, 4, none⟩ = some (.slice (some ⟨ra, 0, none⟩) (n + 1) (n + 1)) := HX.out.cell 4
    have q0 : w1.cell? ⟨ra, n * 2, none⟩ = some x0 := (HRA.out.cell _).trans hx0
    have q1 : w1.cell? ⟨ra, n * 2 + 1, none⟩ = some x1 := (HRA.out.cell _).trans hx1
    have q2 := HRA.out.frozen (n * 2)
    have q3 := HRA.out.frozen (n * 2 + 1)
    go_upto_region 4 with fail
    have HF : Hid (RowR ((cs0.setIfInBounds (n * 2) (.int .i64 fl)).setIfInBounds (n * 2 + 1) (.int .i64 cp)) n n G) := Lib.hid ⟨by simp [hsz0], fun j hj hj2 => by
      obtain rfl : j = n := by omega
      rw [HGE.out, rb_end]
      exact ⟨by rw [set_off _ (by omega)]; exact set_at _ (by omega), set_at _ (by simp; omega)⟩⟩
    have HRA2 := Lib.hid ((HRA.out.set_ (n * 2) (.int .i64 fl)).set_ (n * 2 + 1) (.int .i64 cp))
    have HK2 := Lib.hid ((HK1.out.far (p := ⟨ra, n * 2, none⟩) hkn.1 (.int .i64 fl)).far (p := ⟨ra, n * 2 + 1, none⟩) hkn.1 (.int .i64 cp))
    have HQ2 := Lib.hid ((HQ1.out.far (p := ⟨ra, n * 2, none⟩) hqn.1 (.int .i64 fl)).far (p := ⟨ra, n * 2 + 1, none⟩) hqn.1 (.int .i64 cp))
    have HX2 := Lib.hid ((HX.out.far (p := ⟨ra, n * 2, none⟩) hxa (.int .i64 fl)).far (p := ⟨ra, n * 2 + 1, none⟩) hxa (.int .i64 cp))
    have HRR2 := Lib.hid ((HRR.out.far (p := ⟨ra, n * 2, none⟩) (fun e => har e.symm) (.int .i64 fl)).far (p := ⟨ra, n * 2 + 1, none⟩) (fun e => har e.symm) (.int .i64 cp))
    have HB2 := Lib.hid ((HB1.out.setCell (p := ⟨ra, n * 2, none⟩) hxw.2.1 (.int .i64 fl)).setCell (p := ⟨ra, n * 2 + 1, none⟩) hxw.2.1 (.int .i64 cp))
    generalize (cs0.setIfInBounds (n * 2) (.int .i64 fl)).setIfInBounds (n * 2 + 1) (.int .i64 cp) = cs1 at HF HRA2
    generalize (w1.setCell ⟨ra, n * 2, none⟩ (.int .i64 fl)).setCell ⟨ra, n * 2 + 1, none⟩ (.int .i64 cp) = w2 at HRA2 HK2 HQ2 HX2 HRR2 HB2 ⊢
    clear HRA HK1 HQ1 HX HRR HB1 c0 c2 c2' c4 q0 q1 q2 q3 hx0 hx1 hsz0 hxl hal hrl
    clear w1
    have c0 : w2.cell? ⟨w.heap.size, 0, none⟩ = some (.int .i64 cp) := HK2.out.cell 0
    have c1 : w2.cell? ⟨w.heap.size, 1, none⟩ = some (.int .i64 st) := HK2.out.cell 1
    have c2 : w2.cell? ⟨w.heap.size, 2, none⟩ = some (.int .i64 fl) := HK2.out.cell 2
    have c3 : w2.cell? ⟨w.heap.size, 3, none⟩ = some (.slice PA n pc) := HK2.out.cell 3
    go_wp2_with fail
    refine (backwards_47 _ _ _ _ _).mono ?_
    rintro e U ⟨rfl, bc, bn, hbU⟩
    go_wp2_with fail
    have hz2 := HQ2.out.lt
    have hHA := HRA2.out.lt
    have hHX := HX2.out.lt
    have hHR := HRR2.out.lt
    have HXU := Lib.hid (HX2.out.below hbU hHX)
    have HAU := Lib.hid (HRA2.out.below hbU hHA)
    have HRU := Lib.hid (HRR2.out.below hbU hHR)
    have HQU := Lib.hid (HQ2.out.below hbU hz2)
    have HBU := Lib.hid (HB2.out.trans (hbU.mono (by omega)))
    have hUz : w2.heap.size < U.heap.size := bc.lt
    have hne2 : w2.heap.size ≠ ra ∧ w2.heap.size ≠ rr ∧ w2.heap.size + 1 ≠ ra ∧ w2.heap.size + 1 ≠ rr := by omega
    have HSEQ := Lib.hid (back_seq (PA := PA) (n := n) (pc := pc) (cp := cp) (st := st) (fl := fl) (lo := lo) (hi := hi) (dm := dm) (ou := ou) (sp := sp) 2 w2.heap.size (w2.heap.size + 1) w.heap.size ra rr B HG.out hB hne2 U (by omega) (by omega) (by omega) bc bn (HRD.out.below (HBU.out.mono hB)))
    clear bc bn hbU HX2 HRA2 HRR2 HQ2 HB2 HK2 c0 c1 c2 c3
    rw [← HFE.out, ← HGE.out] at HSEQ
    refine (wpIn_wide (n := 3)).1 ?_
    refine wpIn_rangeFunc_N (F := Fence.wide) (n := 3) rfl (by omega) (gf := 71) (lb := #[.pointer (some ⟨w2.heap.size, 0, none⟩), .pointer (some ⟨w2.heap.size + 1, 0, none⟩)]) rfl trivial (enters_of Tryz.func71 (by kernel_rfl) rfl)
      HSEQ.out (fun h k => h.trans k) ?hKb (Below.refl _ _) (fun _ => rfl)
      (InR U ra rr n F G w.heap.size)
      (ownFrom_blocks (fun s X Y h hb => h.below hb (by omega) (by omega)) (fun s X h => h.2.2)) (fun s X Y h hb => h.below (hb.mono (by omega)) (by omega) (by omega)) ?h0
      (fun x a' W' => ∃ yb, U.heap.size ≤ yb ∧ Blk W' yb 117 #[.int .i64 (F x).1, .int .i64 (F x).2, .int .i64 (G x).1, .int .i64 (G x).2] ∧ a' = { tmps := #[.agg #[.int .i64 cp, .int .i64 st, .int .i64 fl, .slice PA n pc], .pointer (some ⟨w.heap.size, 0, none⟩), .pointer (some ⟨w.heap.size + 1, 0, none⟩), .int .i64 n, .pointer (some ⟨xb, 0, none⟩), .int .i64 x, .pointer (some ⟨yb, 0, none⟩), .pointer (some ⟨w.heap.size, 3, none⟩), .slice PA n pc, .int .i64 n, u10, u11, u12, u13, u14, u15, u16, .pointer (some ⟨xb, 4, none⟩), .slice (some ⟨ra, 0, none⟩) (n + 1) (n + 1), .int .i64 n, .pointer (some ⟨w.heap.size, 2, none⟩), .int .i64 fl, .pointer (some ⟨w.heap.size, 0, none⟩), .pointer (some ⟨w.heap.size, 0, none⟩), .int .i64 cp, .agg #[.int .i64 fl, .int .i64 cp], .pointer (some ⟨ra, n * 2, none⟩), .agg #[.int .i64 cp, .int .i64 st, .int .i64 fl, .slice PA n pc], .func (.func 71) #[] #[.pointer (some ⟨w2.heap.size, 0, none⟩), .pointer (some ⟨w2.heap.size + 1, 0, none⟩)], .int .i64 x, .agg #[.int .i64 (F x).1, .int .i64 (F x).2, .int .i64 (G x).1, .int .i64 (G x).2], u31, u32, u33, u34, u35, u36, u37, u38, u39, u40, u41, u42, u43], defers := [] })
      ?hAx ?assign ?body ?done
    case hKb =>
      intro W' l o o' hl ho hc _
      exact KpR.put (by omega) ho hc
    case h0 =>
      exact ⟨⟨_, _, HAU.out, HF.out, HRU.out, ⟨hst0, fun j h1 h2 => by simp at h1; omega⟩⟩, KpR.refl _, Nat.le_refl _⟩
    case hAx =>
      rintro x a' _ X Y row ⟨yb, hyb, hy, rfl⟩ hg hr
      refine ⟨yb, hyb, (hg.block yb hy.lt (fun e => ?_)).trans hy, rfl⟩
      obtain ⟨o, ho, hc⟩ := (hr yb e.symm).2
      rw [show X.heap[yb]? = _ from hy] at ho
      cases ho
      cases hc
    case assign =>
      intro l pre x W' K hI hK
      dsimp only [bkv]
      gi_wp2
      exact hK _ _ ((KeepsOthers.alloc _ _).from _) (KpR.alloc (by have := hI.2.2; omega) _) (hI.below ((below_alloc _ _).mono hI.2.2) (by omega) (by omega)) ⟨_, hI.2.2, Blk.new _ _ _, rfl⟩
    case body =>
      rintro l pre x a' W' hl hloop hI ⟨yb, hyb, hy, rfl⟩ ⟨hxn, hpre⟩
      have hplen : pre.length = n - 1 - x := by rw [hpre, dwn_len]
      have HI := Lib.hid hI
      obtain ⟨⟨cs, ct, hA, hcs, hR, hct⟩, hkp, hzW⟩ := hI
      have hX := hkp.2 _ _ _ hxa hxr HXU.out
      rw [show n - pre.length = x + 1 by omega] at hcs hct
      obtain ⟨x0, hx0⟩ : ∃ v, cs[x * 2]? = some v := ⟨_, Array.getElem?_eq_getElem (by have := hcs.1; omega)⟩
      obtain ⟨x1, hx1⟩ : ∃ v, cs[x * 2 + 1]? = some v := ⟨_, Array.getElem?_eq_getElem (by have := hcs.1; omega)⟩
      obtain ⟨y0, hy0⟩ : ∃ v, ct[x * 2]? = some v := ⟨_, Array.getElem?_eq_getElem (by have := hct.1; omega)⟩
      obtain ⟨y1, hy1⟩ : ∃ v, ct[x * 2 + 1]? = some v := ⟨_, Array.getElem?_eq_getElem (by have := hct.1; omega)⟩
      have k4 : W'.cell? ⟨xb, 4, none⟩ = some (.slice (some ⟨ra, 0, none⟩) (n + 1) (n + 1)) := hX.cell 4
      have k5 : W'.cell? ⟨xb, 5, none⟩ = some (.slice (some ⟨rr, 0, none⟩) n n) := hX.cell 5
      have m0 : W'.cell? ⟨yb, 0, none⟩ = some (.int .i64 (F x).1) := hy.cell 0
      have m1 : W'.cell? ⟨yb, 1, none⟩ = some (.int .i64 (F x).2) := hy.cell 1
      have m2 : W'.cell? ⟨yb, 2, none⟩ = some (.int .i64 (G x).1) := hy.cell 2
      have m3 : W'.cell? ⟨yb, 3, none⟩ = some (.int .i64 (G x).2) := hy.cell 3
      have a0 : W'.cell? ⟨ra, x * 2, none⟩ = some x0 := (hA.cell _).trans hx0
      have a1 : W'.cell? ⟨ra, x * 2 + 1, none⟩ = some x1 := (hA.cell _).trans hx1
      have a2 := hA.frozen (x * 2)
      have a3 := hA.frozen (x * 2 + 1)
      have r0 : W'.cell? ⟨rr, x * 2, none⟩ = some y0 := (hR.cell _).trans hy0
      have r1 : W'.cell? ⟨rr, x * 2 + 1, none⟩ = some y1 := (hR.cell _).trans hy1
      have r2 := hR.frozen (x * 2)
      have r3 := hR.frozen (x * 2 + 1)
      clear hA hcs hR hct hX hy hkp hx0 hx1 hy0 hy1 hpre
      have hyr : yb ≠ rr := by omega
      have hya : yb ≠ ra := by omega
      have hx1' : (x : Int) < n := by omega
      have hx2' : (x : Int) < (n : Int) + 1 := by omega
      have hx3' : x < n + 1 := by omega
      have hx4' : x ≤ n := by omega
      have hm : Tryz.prog.follows .mixedOrders = true := by kernel_rfl
      gi_upto_region 7 with fail
      have HB4 : W'.cell? ⟨xb, 4, none⟩ = some (.slice (some ⟨ra, 0, none⟩) (n + 1) (n + 1)) ∧ W'.cell? ⟨xb, 5, none⟩ = some (.slice (some ⟨rr, 0, none⟩) n n) ∧ W'.cell? ⟨yb, 0, none⟩ = some (.int .i64 (F x).1) ∧ W'.cell? ⟨yb, 1, none⟩ = some (.int .i64 (F x).2) ∧ W'.cell? ⟨yb, 2, none⟩ = some (.int .i64 (G x).1) ∧ W'.cell? ⟨yb, 3, none⟩ = some (.int .i64 (G x).2) := ⟨k4, k5, m0, m1, m2, m3⟩
      refine wpIn_region_tail (fun _ => True) (fun w' => w'.cell? ⟨xb, 4, none⟩ = some (.slice (some ⟨ra, 0, none⟩) (n + 1) (n + 1)) ∧ w'.cell? ⟨xb, 5, none⟩ = some (.slice (some ⟨rr, 0, none⟩) n n) ∧ w'.cell? ⟨yb, 0, none⟩ = some (.int .i64 (F x).1) ∧ w'.cell? ⟨yb, 1, none⟩ = some (.int .i64 (F x).2) ∧ w'.cell? ⟨yb, 2, none⟩ = some (.int .i64 (G x).1) ∧ w'.cell? ⟨yb, 3, none⟩ = some (.int .i64 (G x).2)) 11 13 (by kernel_rfl) (by kernel_rfl) ?hQ ⟨trivial, HB4⟩ (fun hHeld => ?_)
      case hQ =>
        rintro ⟨_, _, h⟩
        exact h
      refine wpAnyT_takeB (i := 0) (v := .pointer (some ⟨xb, 5, none⟩)) rfl (by kernel_rfl) (by kernel_rfl) (by kernel_rfl) (by kernel_rfl) (by kernel_rfl) (by decide) (by decide) (fun _ _ _ h => h) (Or.inl ⟨by rfl, ?_⟩) hHeld ?_
      · intro w' hSw
        obtain ⟨n4, n5, o0, o1, o2, o3⟩ := hSw
        go_simp
      refine wpAnyT_takeB (i := 1) (v := .slice (some ⟨rr, 0, none⟩) n n) rfl (by kernel_rfl) (by kernel_rfl) (by kernel_rfl) (by kernel_rfl) (by kernel_rfl) (by decide) (by decide) (fun _ _ _ h => h) (Or.inl ⟨by rfl, ?_⟩) hHeld ?_
      · intro w' hSw
        obtain ⟨n4, n5, o0, o1, o2, o3⟩ := hSw
        go_simp
      simp only [Act.put]
      refine wpAnyT_takeB (i := 2) (v := .int .i64 x) rfl (by kernel_rfl) (by kernel_rfl) (by kernel_rfl) (by kernel_rfl) (by kernel_rfl) (by decide) (by decide) (fun _ _ _ h => h) (Or.inl ⟨by rfl, ?_⟩) hHeld ?_
      · intro w' hSw
        obtain ⟨n4, n5, o0, o1, o2, o3⟩ := hSw
        go_simp
      refine wpAnyT_takeB (i := 3) (v := .pointer (some ⟨xb, 4, none⟩)) rfl (by kernel_rfl) (by kernel_rfl) (by kernel_rfl) (by kernel_rfl) (by kernel_rfl) (by decide) (by decide) (fun _ _ _ h => h) (Or.inl ⟨by rfl, ?_⟩) hHeld ?_
      · intro w' hSw
        obtain ⟨n4, n5, o0, o1, o2, o3⟩ := hSw
        go_simp
      simp only [Act.put]
      refine wpAnyT_takeB (i := 4) (v := .slice (some ⟨ra, 0, none⟩) (n + 1) (n + 1)) rfl (by kernel_rfl) (by kernel_rfl) (by kernel_rfl) (by kernel_rfl) (by kernel_rfl) (by decide) (by decide) (fun _ _ _ h => h) (Or.inl ⟨by rfl, ?_⟩) hHeld ?_
      · intro w' hSw
        obtain ⟨n4, n5, o0, o1, o2, o3⟩ := hSw
        go_simp
      refine wpAnyT_takeB (i := 5) (v := .int .i64 x) rfl (by kernel_rfl) (by kernel_rfl) (by kernel_rfl) (by kernel_rfl) (by kernel_rfl) (by decide) (by decide) (fun _ _ _ h => h) (Or.inl ⟨by rfl, ?_⟩) hHeld ?_
      · intro w' hSw
        obtain ⟨n4, n5, o0, o1, o2, o3⟩ := hSw
        go_simp
      simp only [Act.put]
      refine wpAnyT_takeB (i := 6) (v := .pointer (some ⟨yb, 0, none⟩)) rfl (by kernel_rfl) (by kernel_rfl) (by kernel_rfl) (by kernel_rfl) (by kernel_rfl) (by decide) (by decide) (fun _ _ _ h => h) (Or.inl ⟨by rfl, ?_⟩) hHeld ?_
      · intro w' hSw
        obtain ⟨n4, n5, o0, o1, o2, o3⟩ := hSw
        go_simp
      refine wpAnyT_takeB (i := 7) (v := .agg #[.int .i64 (F x).1, .int .i64 (F x).2]) rfl (by kernel_rfl) (by kernel_rfl) (by kernel_rfl) (by kernel_rfl) (by kernel_rfl) (by decide) (by decide) (fun _ _ _ h => h) (Or.inl ⟨by rfl, ?_⟩) hHeld ?_
      · intro w' hSw
        obtain ⟨n4, n5, o0, o1, o2, o3⟩ := hSw
        go_simp
      simp only [Act.put]
      refine wpAnyT_takeB (i := 8) (v := .pointer (some ⟨yb, 2, none⟩)) rfl (by kernel_rfl) (by kernel_rfl) (by kernel_rfl) (by kernel_rfl) (by kernel_rfl) (by decide) (by decide) (fun _ _ _ h => h) (Or.inl ⟨by rfl, ?_⟩) hHeld ?_
      · intro w' hSw
        obtain ⟨n4, n5, o0, o1, o2, o3⟩ := hSw
        go_simp
      refine wpAnyT_takeB (i := 9) (v := .agg #[.int .i64 (G x).1, .int .i64 (G x).2]) rfl (by kernel_rfl) (by kernel_rfl) (by kernel_rfl) (by kernel_rfl) (by kernel_rfl) (by decide) (by decide) (fun _ _ _ h => h) (Or.inl ⟨by rfl, ?_⟩) hHeld ?_
      · intro w' hSw
        obtain ⟨n4, n5, o0, o1, o2, o3⟩ := hSw
        go_simp
      simp only [Act.put]
      refine wpAnyT_takeB (i := 10) (v := .pointer (some ⟨rr, x * 2, none⟩)) rfl (by kernel_rfl) (by kernel_rfl) (by kernel_rfl) (by kernel_rfl) (by kernel_rfl) (by decide) (by decide) (fun _ _ _ h => h) (Or.inl ⟨by rfl, ?_⟩) hHeld ?_
      · intro w' hSw
        obtain ⟨n4, n5, o0, o1, o2, o3⟩ := hSw
        go_simp
      simp only [Act.put]
      refine wpAnyT_one (i := 11) (by kernel_rfl) rfl (Ob.mid (by kernel_rfl)) (fun K hK => ?_)
      go_simp
      refine hK.out _ _ ?_ (fun hHeld => ?_)
      · obtain ⟨n4, n5, o0, o1, o2, o3⟩ := HB4
        exact ⟨(World.cell?_setCell_other _ _ _ _ (fun e => by injection e with e1 _; exact hxr e1.symm)).trans ((World.cell?_setCell_other _ _ _ _ (fun e => by injection e with e1 _; exact hxr e1.symm)).trans n4), (World.cell?_setCell_other _ _ _ _ (fun e => by injection e with e1 _; exact hxr e1.symm)).trans ((World.cell?_setCell_other _ _ _ _ (fun e => by injection e with e1 _; exact hxr e1.symm)).trans n5),
          (World.cell?_setCell_other _ _ _ _ (fun e => by injection e with e1 _; exact hyr e1.symm)).trans ((World.cell?_setCell_other _ _ _ _ (fun e => by injection e with e1 _; exact hyr e1.symm)).trans o0), (World.cell?_setCell_other _ _ _ _ (fun e => by injection e with e1 _; exact hyr e1.symm)).trans ((World.cell?_setCell_other _ _ _ _ (fun e => by injection e with e1 _; exact hyr e1.symm)).trans o1),
          (World.cell?_setCell_other _ _ _ _ (fun e => by injection e with e1 _; exact hyr e1.symm)).trans ((World.cell?_setCell_other _ _ _ _ (fun e => by injection e with e1 _; exact hyr e1.symm)).trans o2), (World.cell?_setCell_other _ _ _ _ (fun e => by injection e with e1 _; exact hyr e1.symm)).trans ((World.cell?_setCell_other _ _ _ _ (fun e => by injection e with e1 _; exact hyr e1.symm)).trans o3)⟩
      have HB5 := hHeld
      clear hK K
      refine wpAnyT_one (i := 12) (by kernel_rfl) rfl (Ob.mid (by kernel_rfl)) (fun K hK => ?_)
      go_simp
      refine hK.out _ _ ?_ (fun hHeld => ?_)
      · exact HB5
      clear hK K
      refine wpAnyT_one (i := 13) (by kernel_rfl) rfl (Ob.last (by kernel_rfl) (by kernel_rfl)) (fun K hK => ?_)
      go_simp
      refine hK.out _ _ trivial (fun _ => ?_)
      clear hK K
      refine wpAnyT_done (by kernel_rfl) ?_
      exact InR.push { tmps := #[], defers := [] } HI.out hxn hplen (by omega) (by omega) har
    case done =>
      rintro D ys W' hD rfl hI hKD
      obtain ⟨⟨cs, ct, hA, hcs, hR, hct⟩, hkp, hzW⟩ := hI
      rw [dwn_len, Nat.sub_self] at hcs hct
      have HX := Lib.hid (hkp.2 _ _ _ hxa hxr HXU.out)
      have HQ := Lib.hid (hkp.2 _ _ _ hqn.1 hqn.2.1 HQU.out)
      have HBW := Lib.hid (HBU.out.trans hkp.1)
      have HA1 := Lib.hid hA
      have HR1 := Lib.hid hR
      have HCS := Lib.hid hcs
      have HCT := Lib.hid hct
      have HKD := Lib.hid hKD
      have hqlt := HQ.out.lt
      clear hA hcs hR hct hkp hKD HAU HRU HXU HQU HBU HSEQ
      have k0 : W'.cell? ⟨xb, 0, none⟩ = some (.int .i64 cp) := HX.out.cell 0
      have k1 : W'.cell? ⟨xb, 1, none⟩ = some (.int .i64 st) := HX.out.cell 1
      have k2 : W'.cell? ⟨xb, 2, none⟩ = some (.int .i64 fl) := HX.out.cell 2
      have k3 : W'.cell? ⟨xb, 3, none⟩ = some (.slice PA n pc) := HX.out.cell 3
      have k4 : W'.cell? ⟨xb, 4, none⟩ = some (.slice (some ⟨ra, 0, none⟩) (n + 1) (n + 1)) := HX.out.cell 4
      have k5 : W'.cell? ⟨xb, 5, none⟩ = some (.slice (some ⟨rr, 0, none⟩) n n) := HX.out.cell 5
      have q0 : W'.cell? ⟨w.heap.size + 1, 0, none⟩ = some (.int .i64 0) := HQ.out.cell 0
      have q1 : W'.cell? ⟨w.heap.size + 1, 1, none⟩ = some (.int .i64 0) := HQ.out.cell 1
      have q2 : W'.cell? ⟨w.heap.size + 1, 2, none⟩ = some (.int .i64 0) := HQ.out.cell 2
      have q3 : W'.cell? ⟨w.heap.size + 1, 3, none⟩ = some (.slice none 0 0) := HQ.out.cell 3
      have q4 : W'.cell? ⟨w.heap.size + 1, 4, none⟩ = some (.slice none 0 0) := HQ.out.cell 4
      have q5 : W'.cell? ⟨w.heap.size + 1, 5, none⟩ = some (.slice none 0 0) := HQ.out.cell 5
      have f0 := HQ.out.frozen 0
      have f1 := HQ.out.frozen 1
      have f2 := HQ.out.frozen 2
      have f3 := HQ.out.frozen 3
      have f4 := HQ.out.frozen 4
      have f5 := HQ.out.frozen 5
      go_wp2_with fail
      refine leaves_one (v := .agg #[.int .i64 cp, .int .i64 st, .int .i64 fl, .slice PA n pc, .slice (some ⟨ra, 0, none⟩) (n + 1) (n + 1), .slice (some ⟨rr, 0, none⟩) n n]) ?_ ?_ ?_
      · rw [Below.heap_setCell _ _ _ _ (by simp; omega), Below.heap_setCell _ _ _ _ (by simp; omega), Below.heap_setCell _ _ _ _ (by simp; omega), Below.heap_setCell _ _ _ _ (by simp; omega), Below.heap_setCell _ _ _ _ (by simp; omega), Below.heap_setCell _ _ _ _ (by simp; omega)]
        exact HKD.out
      · exact results_cell_row rfl _ _ _ 82 _ (0, 0) _ rfl (blk_putObj ((((((HQ.out.set_ 0 (.int .i64 cp)).set_ 1 (.int .i64 st)).set_ 2 (.int .i64 fl)).set_ 3 (.slice PA n pc)).set_ 4 (.slice (some ⟨ra, 0, none⟩) (n + 1) (n + 1))).set_ 5 (.slice (some ⟨rr, 0, none⟩) n n)) (show w.heap.size + 1 ≠ D by omega) _) Tryz.underlying82 rfl (by kernel_rfl)
      · have hDr : ra ≠ D ∧ rr ≠ D := by omega
        have g1 := blk_putObj ((((((HA1.out.far (p := ⟨w.heap.size + 1, 0, none⟩) (fun e => hqn.1 e.symm) (.int .i64 cp)).far (p := ⟨w.heap.size + 1, 1, none⟩) (fun e => hqn.1 e.symm) (.int .i64 st)).far (p := ⟨w.heap.size + 1, 2, none⟩) (fun e => hqn.1 e.symm) (.int .i64 fl)).far (p := ⟨w.heap.size + 1, 3, none⟩) (fun e => hqn.1 e.symm) (.slice PA n pc)).far (p := ⟨w.heap.size + 1, 4, none⟩) (fun e => hqn.1 e.symm) (.slice (some ⟨ra, 0, none⟩) (n + 1) (n + 1))).far (p := ⟨w.heap.size + 1, 5, none⟩) (fun e => hqn.1 e.symm) (.slice (some ⟨rr, 0, none⟩) n n)) hDr.1 (.deferred none)
        have g2 := blk_putObj ((((((HR1.out.far (p := ⟨w.heap.size + 1, 0, none⟩) (fun e => hqn.2.1 e.symm) (.int .i64 cp)).far (p := ⟨w.heap.size + 1, 1, none⟩) (fun e => hqn.2.1 e.symm) (.int .i64 st)).far (p := ⟨w.heap.size + 1, 2, none⟩) (fun e => hqn.2.1 e.symm) (.int .i64 fl)).far (p := ⟨w.heap.size + 1, 3, none⟩) (fun e => hqn.2.1 e.symm) (.slice PA n pc)).far (p := ⟨w.heap.size + 1, 4, none⟩) (fun e => hqn.2.1 e.symm) (.slice (some ⟨ra, 0, none⟩) (n + 1) (n + 1))).far (p := ⟨w.heap.size + 1, 5, none⟩) (fun e => hqn.2.1 e.symm) (.slice (some ⟨rr, 0, none⟩) n n)) hDr.2 (.deferred none)
        exact ⟨⟨_, _, rfl, RowR.rd g1 g1.lt HCS.out, RowS.rd g2 g2.lt HCT.out⟩, below_putObj ((((((HBW.out.setCell (p := ⟨w.heap.size + 1, 0, none⟩) (Nat.le_succ _) (.int .i64 cp)).setCell (p := ⟨w.heap.size + 1, 1, none⟩) (Nat.le_succ _) (.int .i64 st)).setCell (p := ⟨w.heap.size + 1, 2, none⟩) (Nat.le_succ _) (.int .i64 fl)).setCell (p := ⟨w.heap.size + 1, 3, none⟩) (Nat.le_succ _) (.slice PA n pc)).setCell (p := ⟨w.heap.size + 1, 4, none⟩) (Nat.le_succ _) (.slice (some ⟨ra, 0, none⟩) (n + 1) (n + 1))).setCell (p := ⟨w.heap.size + 1, 5, none⟩) (Nat.le_succ _) (.slice (some ⟨rr, 0, none⟩) n n)) (by omega) _⟩
end Go.Proofs.YtonkjnkokikpgaaGreat
