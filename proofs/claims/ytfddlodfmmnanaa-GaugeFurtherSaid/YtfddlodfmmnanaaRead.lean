/- Contract of Read. No condition. -/
import Derived.Test.YtfddlodfmmnanaaEnds
namespace Go.Proofs.Ytfddlodfmmnanaa
open Go.RowKit

attribute [local go_sem] Oper.semAt_some

/-- the mark that a range over a function leaves -/
def markD (D : Nat) : Deferred := { target := .collected D, args := #[] }
/-- the marks' blocks: different ones, from B on, each with no deferred call -/
def Marks (B : Nat) (W : World) (Ds : List Nat) : Prop := Ds.Pairwise (· ≠ ·) ∧ ∀ D ∈ Ds, B ≤ D ∧ W.heap[D]? = some (.deferred (some []))
theorem below_putObj {B : Nat} {w W : World} (h : Below B w W) {D : Nat} (hD : B ≤ D) (o : Obj) : Below B w (W.putObj D o) :=
  h.trans ⟨rfl, rfl, rfl, by simp [World.putObj], fun k hk => World.putObj_heap_other (by omega)⟩
theorem blk_putObj {W : World} {D g : Nat} {t : TypeId} {cs : Array Value} (h : Blk W g t cs) (hD : g ≠ D) (o : Obj) : Blk (W.putObj D o) g t cs := by
  unfold Blk at h ⊢
  rw [World.putObj_heap_other hD]
  exact h
theorem bodyPostM_ret {F : Fence} {n : Nat} {P : Program} {fn : Func} {R : Ending → World → Prop} {a : Act} {w : World} {v : Value}
    (hr : (results fn a.tmps).run P w = .ok v w) (hd : a.defers = []) (hR : R (.returned v) w) : bodyPostM F n P fn R .ret a w := by
  show LeavesInM F n P fn a.tmps R a.defers .returning w
  rw [hd]
  exact ⟨_, hr, hR⟩
/-- leaving a function behind one range over a function in whose body no call was deferred -/
theorem leaves_one {F : Fence} {m : Nat} {P : Program} {fn : Func} {tmps : Array Value} {R : Ending → World → Prop} {v : Value} {D : Nat} {W : World}
    (hD : W.heap[D]? = some (.deferred (some []))) (hres : (results fn tmps).run P (W.putObj D (.deferred none)) = .ok v (W.putObj D (.deferred none))) (hR : R (.returned v) (W.putObj D (.deferred none))) : LeavesInM F m P fn tmps R [markD D] .returning W :=
  ⟨by simp, .inl ⟨D, _, rfl, run_takeDeferred hD, ⟨_, hres, hR⟩⟩⟩
theorem ownFrom_blocks {β : Type} {B : Nat} {I : β → World → Prop} (h : ∀ s X Y, I s X → Below B X Y → I s Y) (hsz : ∀ s X, I s X → B ≤ X.heap.size) : OwnFrom B I :=
  fun s X Y _ hs hg hr => h s X Y hs ⟨hg.os, hg.tape, hg.output, hg.size, fun k hk => hg.block k (by have := hsz s X hs; omega) (fun e => by have := (hr k e.symm).1; omega)⟩

/-- what Read's loop has gathered -/
def rdLo (S F : Nat → Int) (n : Nat) (pre : List Int) : Int := pre.foldl (fun v x => min v (fLo S F n x)) 1073741824
def rdHi (S F : Nat → Int) (n : Nat) (pre : List Int) : Int := pre.foldl (fun v x => max v (fHi S F n x)) 0
theorem rdLo_snoc (S F : Nat → Int) (n : Nat) (pre : List Int) (x : Int) : rdLo S F n (pre ++ [x]) = min (rdLo S F n pre) (fLo S F n x) := by simp [rdLo]
theorem rdHi_snoc (S F : Nat → Int) (n : Nat) (pre : List Int) (x : Int) : rdHi S F n (pre ++ [x]) = max (rdHi S F n pre) (fHi S F n x) := by simp [rdHi]

/-- between two rounds of the loop -/
def InR (S F : Nat → Int) (n g Bs Be : Nat) (U : World) (gs : Array Value) (pre : List Int) (W : World) : Prop :=
  Blk W (g + 1) 27 #[.int .i64 (rdLo S F n pre), .int .i64 (rdHi S F n pre)] ∧ Blk W g 24 gs ∧ KpO g Bs Be U W ∧ U.heap.size ≤ W.heap.size
theorem InR.below {S F : Nat → Int} {n g Bs Be : Nat} {U : World} {gs : Array Value} {pre : List Int} {W W' : World} (h : InR S F n g Bs Be U gs pre W) (he : Be < U.heap.size) (hs : g + 1 < Bs ∧ Bs < U.heap.size) (hb : Below U.heap.size W W') : InR S F n g Bs Be U gs pre W' :=
  ⟨h.1.below hb (by omega), h.2.1.below hb (by omega), h.2.2.1.trans ⟨hb.mono (by omega), hb.block _ (by omega), hb.block _ (by omega)⟩, Nat.le_trans h.2.2.2 hb.size⟩

theorem InR.store {S F : Nat → Int} {n g Bs Be : Nat} {U : World} {gs : Array Value} {pre : List Int} {x : Int} {W W2 : World} (act : Act) (he : Be < U.heap.size) (hs : g + 1 < Bs ∧ Bs < U.heap.size ∧ g + 1 < Be) (hb : Below U.heap.size W W2) (hk : KeepsOthers W W2) (h : InR S F n g Bs Be U gs pre W2)
    {lo hi : Int} (hlo : rdLo S F n (pre ++ [x]) = lo) (hhi : rdHi S F n (pre ++ [x]) = hi) :
    ownPostG U.heap.size (KpO g Bs Be) (InR S F n g Bs Be U gs) (fun _ _ _ => False) (pre ++ [x]) W .normal act ((W2.setCell ⟨g + 1, 0, none⟩ (.int .i64 lo)).setCell ⟨g + 1, 1, none⟩ (.int .i64 hi)).drew := by
  have hkp2 : KpO g Bs Be W2 ((W2.setCell ⟨g + 1, 0, none⟩ (.int .i64 lo)).setCell ⟨g + 1, 1, none⟩ (.int .i64 hi)).drew := by
    refine ⟨(((Below.refl _ _).setCell (p := ⟨g + 1, 0, none⟩) (by simp) _).setCell (p := ⟨g + 1, 1, none⟩) (by simp) _).drew, ?_, ?_⟩
    · show ((W2.setCell ⟨g + 1, 0, none⟩ (.int .i64 lo)).setCell ⟨g + 1, 1, none⟩ (.int .i64 hi)).heap[Bs]? = _
      rw [Below.heap_setCell _ _ _ _ (by simp; omega), Below.heap_setCell _ _ _ _ (by simp; omega)]
    · show ((W2.setCell ⟨g + 1, 0, none⟩ (.int .i64 lo)).setCell ⟨g + 1, 1, none⟩ (.int .i64 hi)).heap[Be]? = _
      rw [Below.heap_setCell _ _ _ _ (by simp; omega), Below.heap_setCell _ _ _ _ (by simp; omega)]
  have hkp : KpO g Bs Be W ((W2.setCell ⟨g + 1, 0, none⟩ (.int .i64 lo)).setCell ⟨g + 1, 1, none⟩ (.int .i64 hi)).drew := KpO.trans ⟨hb.mono (by omega), hb.block _ (by omega), hb.block _ (by omega)⟩ hkp2
  refine ⟨(((hk.trans (KeepsOthers.setCell _ _ _)).trans (KeepsOthers.setCell _ _ _)).trans (KeepsOthers.drew _)).from _, hkp, ?_, ?_, h.2.2.1.trans hkp2, ?_⟩
  · rw [hlo, hhi]
    exact ((h.1.set_ 0 (.int .i64 lo)).set_ 1 (.int .i64 hi)).drewN 1
  · exact ((h.2.1.far (p := ⟨g + 1, 0, none⟩) (by simp) _).far (p := ⟨g + 1, 1, none⟩) (by simp) _).drewN 1
  · have := h.2.2.2
    show U.heap.size ≤ ((W2.setCell ⟨g + 1, 0, none⟩ (.int .i64 lo)).setCell ⟨g + 1, 1, none⟩ (.int .i64 hi)).heap.size
    simp [World.setCell]
    omega

set_option maxRecDepth 100000 in
set_option maxHeartbeats 4000000 in
theorem Read_15 (no rc cl dr si : Int) (A : Option Addr) (n c B : Nat) (S F : Nat → Int) (s h : Int) (w : World) (hm : n ≤ 9223372036854775807) (hB : B ≤ w.heap.size) (hr : n ≤ 64 → RdP w B A n S F) :
    Calls Try.prog 15 #[gv no rc cl dr si A n c, .int .i64 s, .int .i64 h] w fun e w' => e = .returned (rngE (rdE (chk no rc cl dr si n S F) s h) (fLo S F n (max 0 (s - errN cl dr si h))) (fHi S F n (min 1048576 (s + errN cl dr si h)))) ∧ Below w.heap.size w w' := by
  have HC : Hid (∀ W, (n ≤ 64 → RdP W B A n S F) → B ≤ W.heap.size → Calls Try.prog 13 #[gv no rc cl dr si A n c] W fun e w' => e = .returned (.int .i64 (chk no rc cl dr si n S F)) ∧ Below W.heap.size W w') :=
    Lib.hid fun W h1 h2 => check_13 no rc cl dr si A n c B S F W hm h2 h1
  have HZ : Hid (chk no rc cl dr si n S F = 0 → (n ≤ 64 ∧ n ≠ 0 ∧ rowsB S F n = true) ∧ (0 ≤ cl ∧ cl ≤ 1000) ∧ (0 ≤ dr ∧ dr ≤ 1000) ∧ 0 ≤ si ∧ si ≤ 4096) := Lib.hid fun h =>
    ⟨⟨(chk_zero h).1, (chk_zero h).2.1, (chk_zero h).2.2.2⟩, (head_in (chk_zero h).2.2.1).2.2⟩
  have HR := Lib.hid hr
  clear hr
  obtain ⟨er, her⟩ : ∃ er, er = errN cl dr si h := ⟨_, rfl⟩
  rw [← her]
  have HER : Hid (er = cl + dr * (max 0 (h - si) / 24)) := Lib.hid her
  have HEI : Hid (0 ≤ cl ∧ cl ≤ 1000 → 0 ≤ dr ∧ dr ≤ 1000 → 0 ≤ si → h ≤ 4096 → 0 ≤ er ∧ er ≤ 172000 ∧ 0 ≤ dr * (max 0 (h - si) / 24) ∧ dr * (max 0 (h - si) / 24) ≤ 171000) := Lib.hid fun h1 h2 h3 h4 => by rw [her]; exact errN_range h1 h2 h3 h4
  clear her
  have HFL : Hid (∀ W s, n ≠ 0 → n ≤ 64 → rowsB S F n = true → RdP W B A n S F → B ≤ W.heap.size → Calls Try.prog 20 #[gv no rc cl dr si A n c, .int .i64 s] W fun e w' => e = .returned (.agg #[.int .i64 (fLo S F n s), .int .i64 (fHi S F n s)]) ∧ Below W.heap.size W w') :=
    Lib.hid fun W s h1 h2 h3 h4 h5 => flow_20 no rc cl dr si A n c B S F s W h1 h2 h5 h4 h3
  generalize chk no rc cl dr si n S F = r at HC HZ ⊢
  unfold gv at HC HFL ⊢
  refine (callsIn_wide (n := 3)).1 (callsIn_of_wp_marks Try.func15 rfl trivial (wpIn_wide.2 ?_))
  simp only [Try.ntmps15, List.size_toArray, List.length_cons, List.length_nil, Nat.reduceAdd, Nat.reduceSub, Array.replicate_succ, Array.replicate_zero, List.push_toArray, List.append_toArray, List.nil_append, List.cons_append]
  go_wp2_with fail
  obtain ⟨w2, hw2⟩ : ∃ w2, w2 = (w.alloc (.cells #[.int .i64 no, .int .i64 rc, .int .i64 cl, .int .i64 dr, .int .i64 si, .slice A n c] 24)).alloc (.cells #[.int .i64 0, .int .i64 0] 27) := ⟨_, rfl⟩
  have HG2 : Hid (Blk w2 w.heap.size 24 #[.int .i64 no, .int .i64 rc, .int .i64 cl, .int .i64 dr, .int .i64 si, .slice A n c]) := Lib.hid (hw2 ▸ (Blk.new _ _ _).alloc _)
  have HF2 : Hid (Blk w2 (w.heap.size + 1) 27 #[.int .i64 0, .int .i64 0]) := Lib.hid (by have := Blk.new (w.alloc (.cells #[.int .i64 no, .int .i64 rc, .int .i64 cl, .int .i64 dr, .int .i64 si, .slice A n c] 24)) 27 #[.int .i64 0, .int .i64 0]; rw [World.size_alloc] at this; rw [hw2]; exact this)
  have HB2 : Hid (Below w.heap.size w w2) := Lib.hid (by rw [hw2]; (repeat (first | exact Below.refl _ _ | exact below_alloc _ _ | refine Below.alloc ?_ (by simp; omega) _ | refine Below.alloc ?_ (by simp) _)))
  rw [← hw2]
  clear hw2
  have hs2 := HF2.out.lt
  refine (HC.out _ (fun h => (HR.out h).below (HB2.out.mono hB)) (by omega)).mono ?_
  rintro e w3 ⟨rfl, hb3⟩
  have HB3 := Lib.hid (HB2.out.trans (hb3.mono (by omega)))
  have HG3 := Lib.hid (HG2.out.below hb3 (by omega))
  have HF3 := Lib.hid (HF2.out.below hb3 (by omega))
  clear hb3 HB2 HG2 HF2 HC
  have hs3 := HF3.out.lt
  have cf0 : w3.cell? ⟨(w.heap.size+1), 0, none⟩ = some (.int .i64 0) := HF3.out.cell 0
  have cf1 : w3.cell? ⟨(w.heap.size+1), 1, none⟩ = some (.int .i64 0) := HF3.out.cell 1
  have hf0 := HF3.out.frozen 0
  have hf1 := HF3.out.frozen 1
  have cg0 : w3.cell? ⟨w.heap.size, 0, none⟩ = some (.int .i64 no) := HG3.out.cell 0
  have cg1 : w3.cell? ⟨w.heap.size, 1, none⟩ = some (.int .i64 rc) := HG3.out.cell 1
  have cg2 : w3.cell? ⟨w.heap.size, 2, none⟩ = some (.int .i64 cl) := HG3.out.cell 2
  have cg3 : w3.cell? ⟨w.heap.size, 3, none⟩ = some (.int .i64 dr) := HG3.out.cell 3
  have cg4 : w3.cell? ⟨w.heap.size, 4, none⟩ = some (.int .i64 si) := HG3.out.cell 4
  have cg5 : w3.cell? ⟨w.heap.size, 5, none⟩ = some (.slice A n c) := HG3.out.cell 5
  have hgw3 : w.heap.size < w3.heap.size := by omega
  by_cases hr0 : r = 0
  · obtain ⟨⟨hz1, hz2, hz3⟩, hz4, hz5, hz6, hz7⟩ := HZ.out hr0
    have HROW := Lib.hid hz3
    clear HZ hz3
    subst hr0
    go_wp2_with fail
    refine (within_one _ _ _ _ (by simp)).mono ?_
    rintro e wa ⟨rfl, hwa⟩
    have hba : Below w3.heap.size w3 wa := hwa ▸ below_alloc _ _
    clear hwa
    have HBa := Lib.hid (HB3.out.trans (hba.mono (by omega)))
    have HGa := Lib.hid (HG3.out.below hba (by omega))
    have HFa := Lib.hid (HF3.out.below hba (by omega))
    clear hba cf0 cf1 hf0 hf1 cg0 cg1 cg2 cg3 cg4 cg5
    have hsa := HFa.out.lt
    have cf0 : wa.cell? ⟨w.heap.size+1, 0, none⟩ = some (.int .i64 0) := HFa.out.cell 0
    have cf1 : wa.cell? ⟨w.heap.size+1, 1, none⟩ = some (.int .i64 0) := HFa.out.cell 1
    have hf0 := HFa.out.frozen 0
    have hf1 := HFa.out.frozen 1
    have cg0 : wa.cell? ⟨w.heap.size, 0, none⟩ = some (.int .i64 no) := HGa.out.cell 0
    have cg1 : wa.cell? ⟨w.heap.size, 1, none⟩ = some (.int .i64 rc) := HGa.out.cell 1
    have cg2 : wa.cell? ⟨w.heap.size, 2, none⟩ = some (.int .i64 cl) := HGa.out.cell 2
    have cg3 : wa.cell? ⟨w.heap.size, 3, none⟩ = some (.int .i64 dr) := HGa.out.cell 3
    have cg4 : wa.cell? ⟨w.heap.size, 4, none⟩ = some (.int .i64 si) := HGa.out.cell 4
    have cg5 : wa.cell? ⟨w.heap.size, 5, none⟩ = some (.slice A n c) := HGa.out.cell 5
    have hgwa : w.heap.size < wa.heap.size := by omega
    cases h1 : inB 1048576 s
    · have HE : Hid (rdE 0 s h = 1) := Lib.hid (by simp [rdE, h1])
      clear h1
      go_wp2_with fail
      refine bodyPostM_ret (results_row2 rfl _ _ _ 27 _ (0, 0) _ rfl ((HFa.out.set_ 0 (.int .i64 0)).set_ 1 (.int .i64 0)) Try.underlying27 rfl (by kernel_rfl)) rfl ?_
      exact ⟨ret_val (by rw [HE.out]; simp [rngE, flR]), (HBa.out.setCell (p := ⟨w.heap.size + 1, 0, none⟩) (by simp) _).setCell (p := ⟨w.heap.size + 1, 1, none⟩) (by simp) _⟩
    have hs := inB_iff.1 h1
    have H1 := Lib.hid h1
    clear h1
    go_wp2_with fail
    refine (within_one _ _ _ _ (by simp)).mono ?_
    rintro e wb ⟨rfl, hwb⟩
    have hbb : Below wa.heap.size wa wb := hwb ▸ below_alloc _ _
    clear hwb
    have HBb := Lib.hid (HBa.out.trans (hbb.mono (by omega)))
    have HGb := Lib.hid (HGa.out.below hbb (by omega))
    have HFb := Lib.hid (HFa.out.below hbb (by omega))
    clear hbb cf0 cf1 hf0 hf1 cg0 cg1 cg2 cg3 cg4 cg5
    have hsb := HFb.out.lt
    have cf0 : wb.cell? ⟨w.heap.size+1, 0, none⟩ = some (.int .i64 0) := HFb.out.cell 0
    have cf1 : wb.cell? ⟨w.heap.size+1, 1, none⟩ = some (.int .i64 0) := HFb.out.cell 1
    have hf0 := HFb.out.frozen 0
    have hf1 := HFb.out.frozen 1
    have cg0 : wb.cell? ⟨w.heap.size, 0, none⟩ = some (.int .i64 no) := HGb.out.cell 0
    have cg1 : wb.cell? ⟨w.heap.size, 1, none⟩ = some (.int .i64 rc) := HGb.out.cell 1
    have cg2 : wb.cell? ⟨w.heap.size, 2, none⟩ = some (.int .i64 cl) := HGb.out.cell 2
    have cg3 : wb.cell? ⟨w.heap.size, 3, none⟩ = some (.int .i64 dr) := HGb.out.cell 3
    have cg4 : wb.cell? ⟨w.heap.size, 4, none⟩ = some (.int .i64 si) := HGb.out.cell 4
    have cg5 : wb.cell? ⟨w.heap.size, 5, none⟩ = some (.slice A n c) := HGb.out.cell 5
    have hgwb : w.heap.size < wb.heap.size := by omega
    cases h2 : inB 4096 h
    · have HE : Hid (rdE 0 s h = 1) := Lib.hid (by simp [rdE, h2])
      clear h2
      go_wp2_with fail
      refine bodyPostM_ret (results_row2 rfl _ _ _ 27 _ (0, 0) _ rfl ((HFb.out.set_ 0 (.int .i64 0)).set_ 1 (.int .i64 0)) Try.underlying27 rfl (by kernel_rfl)) rfl ?_
      exact ⟨ret_val (by rw [HE.out]; simp [rngE, flR]), (HBb.out.setCell (p := ⟨w.heap.size + 1, 0, none⟩) (by simp) _).setCell (p := ⟨w.heap.size + 1, 1, none⟩) (by simp) _⟩
    have hh := inB_iff.1 h2
    have HE : Hid (rdE 0 s h = 0) := Lib.hid (by simp [rdE, H1.out, h2])
    clear h2
    obtain ⟨he0, he1, he2, he3⟩ := HEI.out hz4 hz5 hz6 hh.2
    obtain ⟨hs0, hs1⟩ := hs
    obtain ⟨hh0, hh1⟩ := hh
    clear HEI
    go_upto_if 33 with fail
    go_cut [8] from 34 to 43 (fun e8 wc => e8 = .int .i64 er ∧ wc = wb)
    case first =>
      by_cases hc : si < h
      · rw [show max 0 (h - si) = h - si by omega] at he2 he3 HER
        have hmw : IntKind.i64.wrap (dr * ((h - si) / 24)) = dr * ((h - si) / 24) := IntWalk.i64_in _ ⟨by omega, by omega⟩
        go_wp2_with fail
        go_meet
        case rel => exact ⟨by rw [HER.out], rfl⟩
      · have hc' : h ≤ si := by omega
        rw [show max 0 (h - si) = 0 by omega] at HER
        go_wp2_with fail
        go_meet
        case rel => exact ⟨by rw [HER.out]; simp, rfl⟩
    case rest =>
      obtain ⟨rfl, rfl⟩ := hcut
      clear he2 he3
      go_upto_region 10 with fail
      obtain ⟨U0, hU0⟩ : ∃ U0, U0 = wc.setCell ⟨w.heap.size + 1, 0, none⟩ (.int .i64 1073741824) := ⟨_, rfl⟩
      have HF0 : Hid (Blk U0 (w.heap.size + 1) 27 #[.int .i64 1073741824, .int .i64 0]) := Lib.hid (hU0 ▸ HFb.out.set_ 0 _)
      have HG0 : Hid (Blk U0 w.heap.size 24 #[.int .i64 no, .int .i64 rc, .int .i64 cl, .int .i64 dr, .int .i64 si, .slice A n c]) := Lib.hid (hU0 ▸ HGb.out.far (by simp) _)
      have HB0 : Hid (Below w.heap.size w U0) := Lib.hid (hU0 ▸ HBb.out.setCell (by simp) _)
      rw [← hU0]
      clear hU0 HFb HGb HBb cf0 cf1 hf0 hf1 cg0 cg1 cg2 cg3 cg4 cg5
      have hs0' := HF0.out.lt
      go_wp2_with fail
      refine (ends_23 _ _ _).mono ?_
      rintro e U ⟨rfl, hU⟩
      have HSB : Hid (Blk U U0.heap.size 3 #[.int .i64 s]) := Lib.hid (hU ▸ (Blk.new _ _ _).alloc _)
      have HEB : Hid (Blk U (U0.heap.size + 1) 3 #[.int .i64 er]) := Lib.hid (by have := Blk.new (U0.alloc (.cells #[.int .i64 s] 3)) 3 #[.int .i64 er]; rw [World.size_alloc] at this; rw [← hU]; exact this)
      have hbU : Below U0.heap.size U0 U := by rw [← hU]; (repeat (first | exact Below.refl _ _ | exact below_alloc _ _ | refine Below.alloc ?_ (by simp; omega) _ | refine Below.alloc ?_ (by simp) _))
      have HFU := Lib.hid (HF0.out.below hbU hs0')
      have HGU := Lib.hid (HG0.out.below hbU HG0.out.lt)
      have HBU := Lib.hid (HB0.out.trans (hbU.mono (by omega)))
      have hsU := HEB.out.lt
      clear hU hbU
      go_wp2_with fail
      refine (wpIn_wide (n := 3)).1 ?_
      refine wpIn_rangeFunc_ownH (F := Fence.wide) (n := 3) rfl (by omega) (gf := 30) (lb := #[.pointer (some ⟨U0.heap.size, 0, none⟩), .pointer (some ⟨U0.heap.size + 1, 0, none⟩)]) rfl trivial (enters_of Try.func30 (by kernel_rfl) rfl)
        (ends_stops 2 (by omega) U0.heap.size (U0.heap.size + 1) w.heap.size s er hs0 hs1 he0 he1 U (HSB.out.cell 0) (HEB.out.cell 0))
        (fun h k => h.trans k) ?hKb (Below.refl _ _) (fun _ => rfl)
        (InR S F n w.heap.size U0.heap.size (U0.heap.size + 1) U #[.int .i64 no, .int .i64 rc, .int .i64 cl, .int .i64 dr, .int .i64 si, .slice A n c]) (fun _ _ _ => False) (ownFrom_blocks (fun s A B h hb => h.below hsU (by omega) hb) (fun s A h => h.2.2.2)) (fun _ _ _ _ _ hs _ _ => hs) ?h0
        (fun x a' W' => a' = { tmps := #[.agg #[.int .i64 no, .int .i64 rc, .int .i64 cl, .int .i64 dr, .int .i64 si, .slice A n c], .int .i64 s, .int .i64 h, .pointer (some ⟨w.heap.size, 0, none⟩), undef, undef, .pointer (some ⟨w.heap.size + 1, 0, none⟩), .int .i64 0, .int .i64 er, .int .i64 x, undef, .agg #[.int .i64 no, .int .i64 rc, .int .i64 cl, .int .i64 dr, .int .i64 si, .slice A n c], .int .i64 0, .int .i64 0, .bool false, undef, undef, .int .i64 s, .slice (some ⟨w3.heap.size, 0, none⟩) 1 1, .bool true, .bool false, .bool false, .int .i64 h, .slice (some ⟨wa.heap.size, 0, none⟩) 1 1, .bool true, .bool false, .bool false, undef, .pointer (some ⟨w.heap.size, 2, none⟩), .int .i64 cl, .int .i64 h, .pointer (some ⟨w.heap.size, 4, none⟩), .int .i64 si, .bool (decide (si < h)), u34, u35, u36, u37, u38, u39, u40, u41, u42, u43, .pointer (some ⟨w.heap.size + 1, 0, none⟩), .int .i64 s, .int .i64 er, .func (.func 30) #[] #[.pointer (some ⟨U0.heap.size, 0, none⟩), .pointer (some ⟨U0.heap.size + 1, 0, none⟩)], .int .i64 x, undef, undef, undef, undef, undef, undef, undef, undef, undef, undef, undef, undef, undef, undef, undef, undef], defers := [] })
        (fun x a' s A B row hs hg hr => hs) ?assign ?body ?done ?stop
      case hKb =>
        intro W' l o o' hl ho hc _
        exact ⟨below_putObj (Below.refl _ _) (by omega) _, World.putObj_heap_other (by omega), World.putObj_heap_other (by omega)⟩
      case h0 => exact ⟨HFU.out, HGU.out, KpO.refl _, Nat.le_refl _⟩
      case stop =>
        rintro D c' pre W' _ _ h _
        exact h.elim
      case assign =>
        intro l pre x W' K hI hK
        gi_wp2
        exact hK _ _ (KeepsOthers.refl _ |>.from _) (KpO.refl _) hI rfl
      case body =>
        rintro l pre x a' W' hl _ hI rfl _
        have HI := Lib.hid hI
        have c0 : W'.cell? ⟨w.heap.size, 0, none⟩ = some (.int .i64 no) := hI.2.1.cell 0
        have c1 : W'.cell? ⟨w.heap.size, 1, none⟩ = some (.int .i64 rc) := hI.2.1.cell 1
        have c2 : W'.cell? ⟨w.heap.size, 2, none⟩ = some (.int .i64 cl) := hI.2.1.cell 2
        have c3 : W'.cell? ⟨w.heap.size, 3, none⟩ = some (.int .i64 dr) := hI.2.1.cell 3
        have c4 : W'.cell? ⟨w.heap.size, 4, none⟩ = some (.int .i64 si) := hI.2.1.cell 4
        have c5 : W'.cell? ⟨w.heap.size, 5, none⟩ = some (.slice A n c) := hI.2.1.cell 5
        have hsW := hI.2.2.2
        have HBW : Hid (Below w.heap.size w W') := Lib.hid (HBU.out.trans hI.2.2.1.1)
        clear hI
        gi_wp2
        refine ⟨trivial, CallsIn.inRound l (callsIn_wide.2 ((HFL.out W' x hz2 hz1 HROW.out ((HR.out hz1).below (HBW.out.mono hB)) (by omega)).mono ?_))⟩
        rintro e W1 ⟨rfl, hb1⟩
        have HI1 := Lib.hid (HI.out.below hsU (by omega) (hb1.mono (by omega)))
        have hs1' := hb1.size
        have HKO1 : Hid (KeepsOthers W' W1) := Lib.hid ⟨hb1.size, fun k o hk _ => (hb1.block k (Array.getElem?_eq_some_iff.1 hk).1).trans hk⟩
        have HKb1 := Lib.hid hb1
        clear hb1
        gi_wp2
        have HBX : Hid (Blk (W1.alloc (.cells #[.int .i64 (fLo S F n x), .int .i64 (fHi S F n x)] 27)) W1.heap.size 27 #[.int .i64 (fLo S F n x), .int .i64 (fHi S F n x)]) := Lib.hid (Blk.new _ _ _)
        have hbx : Below W1.heap.size W1 (W1.alloc (.cells #[.int .i64 (fLo S F n x), .int .i64 (fHi S F n x)] 27)) := below_alloc _ _
        have HKO2 : Hid (KeepsOthers W' (W1.alloc (.cells #[.int .i64 (fLo S F n x), .int .i64 (fHi S F n x)] 27))) := Lib.hid (HKO1.out.trans (KeepsOthers.alloc _ _))
        have HKb2 : Hid (Below U.heap.size W' (W1.alloc (.cells #[.int .i64 (fLo S F n x), .int .i64 (fHi S F n x)] 27))) := Lib.hid ((HKb1.out.trans (hbx.mono hs1')).mono hsW)
        have HI2 := Lib.hid (HI1.out.below hsU (by omega) (hbx.mono (by omega)))
        clear hbx HKb1 HKO1 HI1 c0 c1 c2 c3 c4 c5
        generalize W1.alloc (.cells #[.int .i64 (fLo S F n x), .int .i64 (fHi S F n x)] 27) = W2 at HBX HKO2 HKb2 HI2 ⊢
        have hx0 : W2.cell? ⟨W1.heap.size, 0, none⟩ = some (.int .i64 (fLo S F n x)) := HBX.out.cell 0
        have hx1 : W2.cell? ⟨W1.heap.size, 1, none⟩ = some (.int .i64 (fHi S F n x)) := HBX.out.cell 1
        have hf0 : W2.cell? ⟨w.heap.size + 1, 0, none⟩ = some (.int .i64 (rdLo S F n pre)) := HI2.out.1.cell 0
        have hf1 : W2.cell? ⟨w.heap.size + 1, 1, none⟩ = some (.int .i64 (rdHi S F n pre)) := HI2.out.1.cell 1
        have hr0 := HI2.out.1.frozen 0
        have hr1 := HI2.out.1.frozen 1
        have hne : W1.heap.size ≠ w.heap.size + 1 := by omega
        have HLS := Lib.hid (rdLo_snoc S F n pre x)
        have HHS := Lib.hid (rdHi_snoc S F n pre x)
        refine wpIn_region_tail (fun w' => w'.cell? ⟨w.heap.size + 1, 0, none⟩ = some (.int .i64 (rdLo S F n pre))) (fun w' => w'.cell? ⟨w.heap.size + 1, 1, none⟩ = some (.int .i64 (rdHi S F n pre)) ∧ w'.cell? ⟨W1.heap.size, 0, none⟩ = some (.int .i64 (fLo S F n x)) ∧ w'.cell? ⟨W1.heap.size, 1, none⟩ = some (.int .i64 (fHi S F n x))) 11 13 (by kernel_rfl) (by kernel_rfl) ?hQ ⟨hf0, hf1, hx0, hx1⟩ (fun hHeld => ?_)
        case hQ =>
          rintro ⟨_, _, h⟩
          exact h
        refine wpAnyT_takeB (i := 0) (v := .pointer (some ⟨w.heap.size + 1, 0, none⟩)) rfl (by kernel_rfl) (by kernel_rfl) (by kernel_rfl) (by kernel_rfl) (by kernel_rfl) (by decide) (by decide) (fun _ _ _ h => h) (Or.inl ⟨by rfl, ?_⟩) (by assumption) ?_
        · intro w' hSw
          go_simp
        refine wpAnyT_takeA (i := 1) (v := .int .i64 (rdLo S F n pre)) rfl (by kernel_rfl) (by kernel_rfl) (by kernel_rfl) (by kernel_rfl) (by kernel_rfl) (by decide) (by decide) (fun _ _ _ h => h) (Or.inl ⟨by rfl, ?_⟩) (by assumption) ?_
        · intro w' hSw
          go_simp
        refine wpAnyT_takeB (i := 2) (v := .pointer (some ⟨W1.heap.size, 0, none⟩)) rfl (by kernel_rfl) (by kernel_rfl) (by kernel_rfl) (by kernel_rfl) (by kernel_rfl) (by decide) (by decide) (fun _ _ _ h => h) (Or.inl ⟨by rfl, ?_⟩) (by assumption) ?_
        · intro w' hSw
          go_simp
        refine wpAnyT_takeB (i := 3) (v := .int .i64 (fLo S F n x)) rfl (by kernel_rfl) (by kernel_rfl) (by kernel_rfl) (by kernel_rfl) (by kernel_rfl) (by decide) (by decide) (fun _ _ _ h => h) (Or.inl ⟨by rfl, ?_⟩) (by assumption) ?_
        · intro w' hSw
          go_simp
        refine wpAnyT_takeB (i := 4) (v := .int .i64 (min (rdLo S F n pre) (fLo S F n x))) rfl (by kernel_rfl) (by kernel_rfl) (by kernel_rfl) (by kernel_rfl) (by kernel_rfl) (by decide) (by decide) (fun _ _ _ h => h) (Or.inl ⟨by rfl, ?_⟩) (by assumption) ?_
        · intro w' hSw
          go_simp
        refine wpAnyT_takeB (i := 5) (v := .pointer (some ⟨w.heap.size + 1, 1, none⟩)) rfl (by kernel_rfl) (by kernel_rfl) (by kernel_rfl) (by kernel_rfl) (by kernel_rfl) (by decide) (by decide) (fun _ _ _ h => h) (Or.inl ⟨by rfl, ?_⟩) (by assumption) ?_
        · intro w' hSw
          go_simp
        refine wpAnyT_takeB (i := 6) (v := .int .i64 (rdHi S F n pre)) rfl (by kernel_rfl) (by kernel_rfl) (by kernel_rfl) (by kernel_rfl) (by kernel_rfl) (by decide) (by decide) (fun _ _ _ h => h) (Or.inl ⟨by rfl, ?_⟩) (by assumption) ?_
        · intro w' hSw
          go_simp
        refine wpAnyT_takeB (i := 7) (v := .pointer (some ⟨W1.heap.size, 1, none⟩)) rfl (by kernel_rfl) (by kernel_rfl) (by kernel_rfl) (by kernel_rfl) (by kernel_rfl) (by decide) (by decide) (fun _ _ _ h => h) (Or.inl ⟨by rfl, ?_⟩) (by assumption) ?_
        · intro w' hSw
          go_simp
        refine wpAnyT_takeB (i := 8) (v := .int .i64 (fHi S F n x)) rfl (by kernel_rfl) (by kernel_rfl) (by kernel_rfl) (by kernel_rfl) (by kernel_rfl) (by decide) (by decide) (fun _ _ _ h => h) (Or.inl ⟨by rfl, ?_⟩) (by assumption) ?_
        · intro w' hSw
          go_simp
        refine wpAnyT_takeB (i := 9) (v := .int .i64 (max (rdHi S F n pre) (fHi S F n x))) rfl (by kernel_rfl) (by kernel_rfl) (by kernel_rfl) (by kernel_rfl) (by kernel_rfl) (by decide) (by decide) (fun _ _ _ h => h) (Or.inl ⟨by rfl, ?_⟩) (by assumption) ?_
        · intro w' hSw
          go_simp
        refine wpAnyT_takeB (i := 10) (v := .pointer (some ⟨w.heap.size + 1, 0, none⟩)) rfl (by kernel_rfl) (by kernel_rfl) (by kernel_rfl) (by kernel_rfl) (by kernel_rfl) (by decide) (by decide) (fun _ _ _ h => h) (Or.inl ⟨by rfl, ?_⟩) (by assumption) ?_
        · intro w' hSw
          go_simp
        simp only [Act.put, List.setIfInBounds_toArray]
        refine wpAnyT_one (i := 11) (by kernel_rfl) rfl (Ob.mid (by kernel_rfl)) (fun K hK => ?_)
        go_simp
        refine hK.out _ _ ?_ (fun hHeld => ?_)
        · exact ⟨(World.cell?_setCell_other _ _ _ _ (by simp)).trans hf1, (World.cell?_setCell_other _ _ _ _ (fun e => by injection e with e1 _; omega)).trans hx0, (World.cell?_setCell_other _ _ _ _ (fun e => by injection e with e1 _; omega)).trans hx1⟩
        clear hK K
        refine wpAnyT_one (i := 12) (by kernel_rfl) rfl (Ob.mid (by kernel_rfl)) (fun K hK => ?_)
        go_simp
        refine hK.out _ _ ?_ (fun hHeld => ?_)
        · go_keep
        clear hK K
        refine wpAnyT_one (i := 13) (by kernel_rfl) rfl (Ob.last (by kernel_rfl) (by kernel_rfl)) (fun K hK => ?_)
        go_simp
        refine hK.out _ _ trivial (fun _ => ?_)
        clear hK K
        refine wpAnyT_done (by kernel_rfl) ?_
        exact InR.store { tmps := #[], defers := [] } hsU (by omega) HKb2.out HKO2.out HI2.out HLS.out HHS.out
      case done =>
        rintro D ys W' hD rfl hI hKD
        have hf0 : W'.cell? ⟨w.heap.size + 1, 0, none⟩ = some (.int .i64 (rdLo S F n [max 0 (s - er), min 1048576 (s + er)])) := hI.1.cell 0
        have hf1 : W'.cell? ⟨w.heap.size + 1, 1, none⟩ = some (.int .i64 (rdHi S F n [max 0 (s - er), min 1048576 (s + er)])) := hI.1.cell 1
        have hr0 := hI.1.frozen 0
        have hr1 := hI.1.frozen 1
        have HBW : Hid (Below w.heap.size w W') := Lib.hid (HBU.out.trans hI.2.2.1.1)
        have HI1 := Lib.hid hI.1
        have HKD := Lib.hid hKD
        clear hI hKD
        have hab := flow_mono HROW.out hz2 (s := max 0 (s - er)) (t := min 1048576 (s + er)) (by omega)
        have ha := flow_in HROW.out hz2 (max 0 (s - er))
        have hb := flow_in HROW.out hz2 (min 1048576 (s + er))
        have HLV : Hid (rdLo S F n [max 0 (s - er), min 1048576 (s + er)] = fLo S F n (max 0 (s - er))) := Lib.hid (by simp only [rdLo, List.foldl_cons, List.foldl_nil]; omega)
        have HHV : Hid (rdHi S F n [max 0 (s - er), min 1048576 (s + er)] = fHi S F n (min 1048576 (s + er))) := Lib.hid (by simp only [rdHi, List.foldl_cons, List.foldl_nil]; omega)
        clear hab ha hb
        generalize rdLo S F n [max 0 (s - er), min 1048576 (s + er)] = vlo at *
        generalize rdHi S F n [max 0 (s - er), min 1048576 (s + er)] = vhi at *
        go_wp2_with fail
        refine leaves_one (v := .tuple #[.agg #[.int .i64 vlo, .int .i64 vhi], .int .i64 0]) ?_ ?_ ?_
        · rw [Below.heap_setCell _ _ _ _ (by simp; omega), Below.heap_setCell _ _ _ _ (by simp; omega)]
          exact HKD.out
        · refine results_row2 (p := 6) (u := 7) (ty := 27) rfl _ _ (w.heap.size + 1) 27 #[.int .i64 vlo, .int .i64 vhi] (0, 0) _ ?_ (blk_putObj ((HI1.out.set_ 0 (.int .i64 vlo)).set_ 1 (.int .i64 vhi)) (show w.heap.size + 1 ≠ D by omega) _) Try.underlying27 rfl (by kernel_rfl)
          rfl
        · exact ⟨ret_val (by rw [HE.out, ← HLV.out, ← HHV.out]; simp [rngE, flR]), below_putObj ((HBW.out.setCell (p := ⟨w.heap.size + 1, 0, none⟩) (by simp) _).setCell (p := ⟨w.heap.size + 1, 1, none⟩) (by simp) _) (by omega) _⟩
  · have hr0' : (r == 0) = false := by rw [beq_eq_false_iff_ne]; exact hr0
    have HE : Hid (rdE r s h = r) := Lib.hid (by simp [rdE, hr0])
    have HN : Hid (r ≠ 0) := Lib.hid hr0
    clear HZ
    go_wp2_with fail
    refine bodyPostM_ret (results_row2 rfl _ _ _ 27 _ (0, 0) _ rfl ((HF3.out.set_ 0 (.int .i64 0)).set_ 1 (.int .i64 0)) Try.underlying27 rfl (by kernel_rfl)) rfl ?_
    exact ⟨ret_val (by rw [HE.out]; simp [rngE, flR, HN.out]), (HB3.out.setCell (p := ⟨w.heap.size + 1, 0, none⟩) (by simp) _).setCell (p := ⟨w.heap.size + 1, 1, none⟩) (by simp) _⟩
end Go.Proofs.Ytfddlodfmmnanaa
