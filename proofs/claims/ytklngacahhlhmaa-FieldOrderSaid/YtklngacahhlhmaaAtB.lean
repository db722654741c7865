/- Contract of the interpolation at different points: at most 64 points. -/
import Derived.Test.YtklngacahhlhmaaAtA
namespace Go.Proofs.Ytklngacahhlhmaa
open Go.RowKit Go.Maps
open Pl (inv eQ Cg sumN prodN lagr)


attribute [local go_sem] Oper.semAt_some

/-- the mark that a range over a function leaves -/
def markD (D : Nat) : Deferred := { target := .collected D, args := #[] }
/-- the marks' blocks: different ones, from B on, each with no deferred call -/
def Marks (B : Nat) (W : World) (Ds : List Nat) : Prop := Ds.Pairwise (· ≠ ·) ∧ ∀ D ∈ Ds, B ≤ D ∧ W.heap[D]? = some (.deferred (some []))
theorem Marks.nil (B : Nat) (W : World) : Marks B W [] := ⟨List.Pairwise.nil, by simp⟩
theorem Marks.below {B C : Nat} {W W' : World} {Ds : List Nat} (h : Marks B W Ds) (hb : Below C W W') (hC : ∀ D ∈ Ds, D < C) : Marks B W' Ds :=
  ⟨h.1, fun D hD => ⟨(h.2 D hD).1, (hb.block D (hC D hD)).trans (h.2 D hD).2⟩⟩
theorem Marks.lt {B : Nat} {W : World} {Ds : List Nat} (h : Marks B W Ds) : ∀ D ∈ Ds, D < W.heap.size := fun D hD => (Array.getElem?_eq_some_iff.1 (h.2 D hD).2).1
theorem Marks.cons {B D : Nat} {W : World} {Ds : List Nat} (h : Marks B W Ds) (hD : W.heap[D]? = some (.deferred (some []))) (hB : B ≤ D) (hlt : ∀ D' ∈ Ds, D' < D) : Marks B W (D :: Ds) :=
  ⟨List.Pairwise.cons (fun D' hD' e => by have := hlt D' hD'; omega) h.1, fun D' hD' => by
    rcases List.mem_cons.1 hD' with rfl | h'
    · exact ⟨hB, hD⟩
    · exact h.2 D' h'⟩

theorem below_putObj {B : Nat} {w W : World} (h : Below B w W) {D : Nat} (hD : B ≤ D) (o : Obj) : Below B w (W.putObj D o) :=
  h.trans ⟨rfl, rfl, rfl, by simp [World.putObj], fun k hk => World.putObj_heap_other (by omega)⟩

/-- leaving a function behind ranges over functions in whose bodies no call was deferred -/
theorem leaves_marks {F : Fence} {m : Nat} {P : Program} {fn : Func} {tmps : Array Value} {R : Ending → World → Prop} {v : Value} {B : Nat} {w : World}
    (hres : ∀ W, (results fn tmps).run P W = .ok v W) (hR : ∀ W, Below B w W → R (.returned v) W) : ∀ (Ds : List Nat) (W : World), Marks B W Ds → Below B w W → LeavesInM F m P fn tmps R (Ds.map markD) .returning W
  | [], W, _, hb => ⟨_, hres W, hR W hb⟩
  | D :: Ds, W, hm, hb => by
    obtain ⟨hBD, hD⟩ := hm.2 D (by simp)
    refine ⟨by simp, .inl ⟨D, _, rfl, run_takeDeferred hD, ?_⟩⟩
    refine leaves_marks hres hR Ds _ ⟨(List.pairwise_cons.1 hm.1).2, fun D' hD' => ⟨(hm.2 D' (by simp [hD'])).1, ?_⟩⟩ (below_putObj hb hBD _)
    rw [World.putObj_heap_other (fun e => (List.pairwise_cons.1 hm.1).1 D' hD' e.symm)]
    exact (hm.2 D' (by simp [hD'])).2

theorem ownFrom_blocks {β : Type} {B : Nat} {I : β → World → Prop} (h : ∀ s X Y, I s X → Below B X Y → I s Y) (hsz : ∀ s X, I s X → B ≤ X.heap.size) : OwnFrom B I :=
  fun s X Y _ hs hg hr => h s X Y hs ⟨hg.os, hg.tape, hg.output, hg.size, fun k hk => hg.block k (by have := hsz s X hs; omega) (fun e => by have := (hr k e.symm).1; omega)⟩
theorem blk_grown {W W' : World} {row : Option Nat} {g : Nat} {t : TypeId} {cs : Array Value} (h : Blk W g t cs) (hg : W.grownBy W' row) (hr : ∀ r, row = some r → ∃ o : Obj, W.heap[r]? = some o ∧ o.isCells = false) : Blk W' g t cs :=
  (hg.block g h.lt (fun e => by
    obtain ⟨o, ho, hc⟩ := hr g e.symm
    rw [show W.heap[g]? = _ from h] at ho
    cases ho
    cases hc)).trans h

/-- a product over a list of indices -/
def lp (g : Nat → Int) (l : List Nat) : Int := l.foldl (fun p k => p * g k) 1
theorem lp_snoc (g : Nat → Int) (l : List Nat) (x : Nat) : lp g (l ++ [x]) = lp g l * g x := by simp [lp]
theorem lp_oth (g : Nat → Int) (i : Nat) : ∀ n, lp g (oth i n) = prodN i g n
  | 0 => rfl
  | n + 1 => by
    by_cases h : n = i
    · subst h; rw [oth_pass, lp_oth g n n, Pl.prodN_pass rfl]
    · rw [oth_take h, lp_snoc, lp_oth g i n, Pl.prodN_take h]

/-- between two rounds of the inner loop: what the two boxes hold -/
def InI (n₀ k : Nat) (X Y : Nat → Int) (t : Int) (U : World) (pre : List Nat) (W : World) : Prop :=
  (∃ a b : Int, Blk W (n₀ + 1) 3 #[.int .i64 a] ∧ Blk W (n₀ + 2) 3 #[.int .i64 b] ∧ (0 ≤ a ∧ a < 1073741789) ∧ (0 ≤ b ∧ b < 1073741789) ∧ Cg a (Y k * lp (fun j => t - X j) pre) ∧ Cg b (lp (fun j => X k - X j) pre)) ∧
    Blk W n₀ 38 #[.int .i64 (X k), .int .i64 (Y k)] ∧ KpO n₀ (n₀ + 3) (n₀ + 4) U W ∧ U.heap.size ≤ W.heap.size
theorem InI.below {n₀ k : Nat} {X Y : Nat → Int} {t : Int} {U : World} {pre : List Nat} {W W' : World} (h : InI n₀ k X Y t U pre W) (hU : U.heap.size = n₀ + 5) (hb : Below U.heap.size W W') : InI n₀ k X Y t U pre W' := by
  obtain ⟨⟨a, b, h1, h2, h3, h4, h5, h6⟩, h7, h8, h9⟩ := h
  exact ⟨⟨a, b, h1.below hb (by omega), h2.below hb (by omega), h3, h4, h5, h6⟩, h7.below hb (by omega), h8.trans ⟨hb.mono (by omega), hb.block _ (by omega), hb.block _ (by omega)⟩, Nat.le_trans h9 hb.size⟩

theorem sum_blk (a b : Int) (g : Nat) (w : World) (ha : I64 a) (hb : I64 b) (h : Blk w g 3 #[.int .i64 a, .int .i64 b]) :
    Calls Try.prog 26 #[.slice (some ⟨g, 0, none⟩) 2 2] w fun e w' => e = .returned (.int .i64 ((a + b) % 1073741789)) ∧ w = w' := by
  have h := sum_26 _ 2 2 _ (two a b) w (by omega) (h.rd _ (two_cells a b)) (two_i64 ha hb)
  rwa [two_sum] at h

theorem tm_step {X Y : Nat → Int} {t v a b : Int} {n k : Nat} (hv : Cg v (sumN (tm X Y n t) k)) (ha : Cg a (Y k * lp (fun j => t - X j) (oth k n))) (hb : Cg b (lp (fun j => X k - X j) (oth k n))) :
    Cg ((v + a * inv b) % 1073741789) (sumN (tm X Y n t) (k + 1)) := by
  rw [lp_oth] at ha hb
  refine (Pl.Cg.mod _).trans (hv.add ?_)
  unfold tm
  rw [Pl.inv_cg hb]
  exact ha.mul (Pl.Cg.refl _)

theorem InI.store {n₀ k x : Nat} {X Y : Nat → Int} {t : Int} {U : World} {pre : List Nat} {W W1 : World} {a b : Int} (act : Act) (h0 : KpO n₀ (n₀ + 3) (n₀ + 4) U W) (h7 : Blk W n₀ 38 #[.int .i64 (X k), .int .i64 (Y k)]) (h9 : U.heap.size ≤ W.heap.size) (hU : U.heap.size = n₀ + 5)
    (h1 : Blk W (n₀ + 1) 3 #[.int .i64 a]) (h2 : Blk W (n₀ + 2) 3 #[.int .i64 b]) (hb : Below W.heap.size W W1) (hk : KeepsOthers W W1)
    (h5 : Cg a (Y k * lp (fun j => t - X j) pre)) (h6 : Cg b (lp (fun j => X k - X j) pre)) {a1 b1 : Int} (ha1 : Cg a1 (a * (t - X x))) (hb1 : Cg b1 (b * (X k - X x))) (hra : 0 ≤ a1 ∧ a1 < 1073741789) (hrb : 0 ≤ b1 ∧ b1 < 1073741789) :
    ownPostG U.heap.size (KpO n₀ (n₀ + 3) (n₀ + 4)) (InI n₀ k X Y t U) (fun _ _ _ => False) (pre ++ [x]) W .normal act ((W1.setCell ⟨n₀ + 1, 0, none⟩ (.int .i64 a1)).setCell ⟨n₀ + 1 + 1, 0, none⟩ (.int .i64 b1)) := by
  have hs := hb.size
  have hkp : KpO n₀ (n₀ + 3) (n₀ + 4) W ((W1.setCell ⟨n₀ + 1, 0, none⟩ (.int .i64 a1)).setCell ⟨n₀ + 1 + 1, 0, none⟩ (.int .i64 b1)) := by
    refine ⟨((hb.mono (by omega)).setCell (p := ⟨n₀ + 1, 0, none⟩) (by simp) _).setCell (p := ⟨n₀ + 1 + 1, 0, none⟩) (by simp; omega) _, ?_, ?_⟩
    · rw [Below.heap_setCell _ _ _ _ (by simp), Below.heap_setCell _ _ _ _ (by simp), hb.block _ (by omega)]
    · rw [Below.heap_setCell _ _ _ _ (by simp), Below.heap_setCell _ _ _ _ (by simp), hb.block _ (by omega)]
  refine ⟨((hk.trans (KeepsOthers.setCell _ _ _)).trans (KeepsOthers.setCell _ _ _)).from _, hkp, ⟨a1, b1, ?_, ?_, hra, hrb, ?_, ?_⟩, ?_, h0.trans hkp, by simp [World.setCell]; omega⟩
  · have := (h1.below hb h1.lt).set_ 0 (.int .i64 a1)
    exact this.far (p := ⟨n₀ + 1 + 1, 0, none⟩) (by simp) _
  · have := ((h2.below hb h2.lt).far (p := ⟨n₀ + 1, 0, none⟩) (by simp) (.int .i64 a1)).set_ 0 (.int .i64 b1)
    exact this
  · rw [lp_snoc, ← Int.mul_assoc]
    exact ha1.trans (h5.mul (Pl.Cg.refl _))
  · rw [lp_snoc]
    exact hb1.trans (h6.mul (Pl.Cg.refl _))
  · exact ((h7.below hb h7.lt).far (p := ⟨n₀ + 1, 0, none⟩) (by simp) _).far (p := ⟨n₀ + 1 + 1, 0, none⟩) (by simp; omega) _

set_option maxRecDepth 100000 in
set_option maxHeartbeats 2000000 in
theorem at_19_ok (A : Option Addr) (n c B : Nat) (X Y : Nat → Int) (t : Int) (w : World) (hn : n ≤ 64) (hB : B ≤ w.heap.size) (hr : RdP w B A n X Y) (hx : ∀ j, I64 (X j)) (hy : ∀ j, I64 (Y j)) (ht : I64 t) (hd : distB X n = true) :
    Calls Try.prog 19 #[.slice A n c, .int .i64 t] w fun e w' => e = .returned (.tuple #[.int .i64 (lagr n X Y t % 1073741789), .int .i64 0]) ∧ Below w.heap.size w w' := by
  have hmm := @run_makeMap Try.prog
  refine (callsIn_wide (n := 3)).1 (callsIn_of_wp_marks Try.func19 rfl trivial (wpIn_wide.2 ?_))
  simp only [Try.ntmps19, List.size_toArray, List.length_cons, List.length_nil, Nat.reduceAdd, Nat.reduceSub, Array.replicate_succ, Array.replicate_zero, List.push_toArray, List.append_toArray, List.nil_append, List.cons_append]
  have HR := Lib.hid hr
  have HX := Lib.hid hx
  have HD := Lib.hid hd
  clear hr hx hd
  go_wp2_with fail
  go_loopw [22] (fun i wr => ∃ k : Nat, k ≤ n ∧ i = .int .i64 k ∧ wr.ownsMap Try.prog 3 (plainElem Try.prog 4) (w.heap.size + 1) k (setX X k) ∧ Below w.heap.size w wr ∧ Blk wr w.heap.size 3 #[.int .i64 t]) (fun i _ => n - (intOf i).toNat)
  case atStart =>
    refine ⟨0, Nat.zero_le _, rfl, ?_, (below_alloc _ _).trans ((below_alloc _ _).mono (by simp)), (Blk.new _ _ _).alloc _⟩
    rw [setX_zero]
    have := World.ownsMap_made (w.alloc (.cells #[.int .i64 t] 3)) Try.prog 3 (plainElem (H := Unit) Try.prog 4)
    rwa [World.size_alloc] at this
  case round =>
    obtain ⟨k, hk, rfl, hown, hnx, hbt⟩ := hrel
    by_cases hlt : k < n
    · obtain ⟨b, off, rfl, _, c1, c2⟩ := RdP.at_ (Rd.below HR.out (hnx.mono hB)) hlt
      have HB := Lib.hid hnx
      have HO := Lib.hid hown
      have HXK := Lib.hid (HX.out k)
      have HBT := Lib.hid hbt
      have hbb : b < wr.heap.size := World.block_lt_of_cell? _ _ c1
      clear hnx hown hbt
      go_wp2_with fail
      refine (mod_12 _ _ HXK.out).mono ?_
      rintro e w' ⟨rfl, rfl⟩
      have hkey : keyOf Try.prog 3 (.int .i64 (X k % 1073741789)) = some (litX X k) := keyOf_int_mk Try.underlying3 (WalkArith.wf_i64 (by have := emodQ (X k); omega))
      go_wp2_with (at_mapUpdate; refine wpList_mapUpdate_own _ rfl _ _ _ 43 rfl 3 4 keyed3 Try.underlying43 (plainElem (H := Unit) Try.prog 4) (w.heap.size + 1) k _ rfl (HO.out.alloc _) (by unfold maxLen; omega) _ _ _ rfl rfl hkey _ [] (plainElem_bool Try.underlying4 true) ?_; intro w1 hown1 hgrow1)
      go_roundw
      case rel => exact ⟨k + 1, by omega, by go_num, (setX_succ X k).symm ▸ hown1, (below_then HB.out (below_alloc _ _) (Nat.le_refl _)).grown hgrow1 (by have := HB.out.size; simp; omega) (fun j hj => by cases hj; omega), (hgrow1.block _ (by have := HBT.out.lt; simp; omega) (by simp)).trans (HBT.out.alloc _)⟩
      case measure => simp [intOf]; omega
    · obtain rfl : n = k := by omega
      have HSZ : Hid (¬ Maps.size (setX X n) < n) := Lib.hid fun h => by have := (setX_len X n).2.1 h; rw [HD.out] at this; cases this
      have hsz : ¬ Maps.size (setX X n) < n := HSZ.out
      have HB := Lib.hid hnx
      have HBT := Lib.hid hbt
      obtain ⟨W0, hW0⟩ : ∃ W0, wr = W0 := ⟨_, rfl⟩
      subst hW0
      go_wp2_with (at_len; refine wpList_len_own _ rfl _ 43 rfl 3 4 Try.underlying43 _ (w.heap.size + 1) n _ rfl hown ?_)
      clear hown hnx hbt
      refine wp_loop (fun a' W => Hid (∃ (k : Nat) (v : Int) (Ds : List Nat) (v9 v10 v11 v12 v13 v14 v15 v39 v40 v41 v42 v43 v44 v45 v46 v47 v48 v49 v50 v51 v52 v53 v54 v55 v56 v57 v58 v59 v60 v61 v62 v63 v64 v65 v66 v67 v68 v69 v70 v71 v72 v73 v74 v75 v76 v77 v78 v79 v80 : Value), k ≤ n ∧ 0 ≤ v ∧ v < 1073741789 ∧ Cg v (sumN (tm X Y n t) k) ∧ Below w.heap.size w W ∧ Blk W w.heap.size 3 #[.int .i64 t] ∧ Marks w.heap.size W Ds ∧ a' = { tmps := #[.slice A n c, .int .i64 t, undef, .pointer (some ⟨w.heap.size, 0, none⟩), .int .i64 v, .int .i64 0, .map (some (w.heap.size + 1)), undef, u8, v9, v10, v11, v12, v13, v14, v15, .slice A n c, .int .i64 (n : Int), .bool (decide ((64 : Int) < (n : Int))), .map (some (w.heap.size + 1)), .slice A n c, .int .i64 (n : Int), .int .i64 (n : Int), .bool false, u24, u25, u26, u27, u28, u29, u30, .map (some (w.heap.size + 1)), .int .i64 ((Maps.size (setX X n) : Nat) : Int), .slice A n c, .int .i64 (n : Int), .bool false, .slice A n c, .int .i64 (n : Int), .int .i64 (k : Int), v39, v40, v41, v42, v43, v44, v45, v46, v47, v48, v49, v50, v51, v52, v53, v54, v55, v56, v57, v58, v59, v60, v61, v62, v63, v64, v65, v66, v67, v68, v69, v70, v71, v72, v73, v74, v75, v76, v77, v78, v79, v80, undef], defers := Ds.map markD })) (fun a' _ => n - (intOf (a'.tmps.getD 38 undef)).toNat) ?_ ?_
      · exact ⟨0, 0, [], _, _, _, _, _, _, _, _, _, _, _, _, _, _, _, _, _, _, _, _, _, _, _, _, _, _, _, _, _, _, _, _, _, _, _, _, _, _, _, _, _, _, _, _, _, _, _, _, _, by omega, by omega, by omega, Pl.Cg.refl _, HB.out, HBT.out, Marks.nil _ _, rfl⟩
      · intro a' W hI
        obtain ⟨k, v, Ds, v9, v10, v11, v12, v13, v14, v15, v39, v40, v41, v42, v43, v44, v45, v46, v47, v48, v49, v50, v51, v52, v53, v54, v55, v56, v57, v58, v59, v60, v61, v62, v63, v64, v65, v66, v67, v68, v69, v70, v71, v72, v73, v74, v75, v76, v77, v78, v79, v80, hk, hv0, hv1, hv, hb, hbt, hm, rfl⟩ := hI.out
        clear hI
        have HV := Lib.hid hv
        have HBW := Lib.hid hb
        have HBU := Lib.hid hbt
        have HM := Lib.hid hm
        clear hv hb hbt hm
        by_cases hlt : k < n
        · obtain ⟨b, off, rfl, hbB, c1, c2⟩ := RdP.at_ (Rd.below HR.out (HBW.out.mono hB)) hlt
          have HXK := Lib.hid (HX.out k)
          have HYK := Lib.hid (hy k)
          have hbb : b < W.heap.size := World.block_lt_of_cell? _ _ c1
          have hyb := emodQ (Y k)
          go_wp2_with fail
          refine (mod_12 _ _ HYK.out).mono ?_
          rintro e w' ⟨rfl, rfl⟩
          go_wp2_with fail
          refine (others_27 _ _ _ _ _).mono ?_
          rintro e w' ⟨rfl, rfl⟩
          go_wp2_with fail
          have hsz5 : ((((((W.alloc (.cells #[.int .i64 (X k), .int .i64 (Y k)] 38)).alloc (.cells #[.int .i64 (Y k % 1073741789)] 3)).alloc (.cells #[.int .i64 1] 3)).alloc (.cells #[.slice (some ⟨b, off, none⟩) n c] 30)).alloc (.cells #[.int .i64 (k : Int)] 3)).heap.size) = W.heap.size + 5 := by simp
          have k0 := ((((Blk.new W 38 #[.int .i64 (X k), .int .i64 (Y k)]).alloc (.cells #[.int .i64 (Y k % 1073741789)] 3)).alloc (.cells #[.int .i64 1] 3)).alloc (.cells #[.slice (some ⟨b, off, none⟩) n c] 30)).alloc (.cells #[.int .i64 (k : Int)] 3)
          have k1 := (((Blk.new (W.alloc (.cells #[.int .i64 (X k), .int .i64 (Y k)] 38)) 3 #[.int .i64 (Y k % 1073741789)]).alloc (.cells #[.int .i64 1] 3)).alloc (.cells #[.slice (some ⟨b, off, none⟩) n c] 30)).alloc (.cells #[.int .i64 (k : Int)] 3)
          have k2 := ((Blk.new ((W.alloc (.cells #[.int .i64 (X k), .int .i64 (Y k)] 38)).alloc (.cells #[.int .i64 (Y k % 1073741789)] 3)) 3 #[.int .i64 1]).alloc (.cells #[.slice (some ⟨b, off, none⟩) n c] 30)).alloc (.cells #[.int .i64 (k : Int)] 3)
          have k3 := (Blk.new (((W.alloc (.cells #[.int .i64 (X k), .int .i64 (Y k)] 38)).alloc (.cells #[.int .i64 (Y k % 1073741789)] 3)).alloc (.cells #[.int .i64 1] 3)) 30 #[.slice (some ⟨b, off, none⟩) n c]).alloc (.cells #[.int .i64 (k : Int)] 3)
          have k4 := Blk.new ((((W.alloc (.cells #[.int .i64 (X k), .int .i64 (Y k)] 38)).alloc (.cells #[.int .i64 (Y k % 1073741789)] 3)).alloc (.cells #[.int .i64 1] 3)).alloc (.cells #[.slice (some ⟨b, off, none⟩) n c] 30)) 3 #[.int .i64 (k : Int)]
          have hUB : Below W.heap.size W (((((W.alloc (.cells #[.int .i64 (X k), .int .i64 (Y k)] 38)).alloc (.cells #[.int .i64 (Y k % 1073741789)] 3)).alloc (.cells #[.int .i64 1] 3)).alloc (.cells #[.slice (some ⟨b, off, none⟩) n c] 30)).alloc (.cells #[.int .i64 (k : Int)] 3)) :=
            (((((Below.refl _ W).alloc (Nat.le_refl _) _).alloc (by simp) _).alloc (by simp; omega) _).alloc (by simp; omega) _).alloc (by simp; omega) _
          simp only [World.size_alloc] at k1 k2 k3 k4
          generalize ((((W.alloc (.cells #[.int .i64 (X k), .int .i64 (Y k)] 38)).alloc (.cells #[.int .i64 (Y k % 1073741789)] 3)).alloc (.cells #[.int .i64 1] 3)).alloc (.cells #[.slice (some ⟨b, off, none⟩) n c] 30)).alloc (.cells #[.int .i64 (k : Int)] 3) = U at *
          refine (wpIn_wide (n := 3)).1 ?_
          refine wpIn_rangeFunc_ownH (F := Fence.wide) (n := 3) rfl (by omega) (gf := 28) (lb := #[.pointer (some ⟨W.heap.size + 1 + 1 + 1, 0, none⟩), .pointer (some ⟨W.heap.size + 1 + 1 + 1 + 1, 0, none⟩)]) rfl trivial (enters_of Try.func28 (by kernel_rfl) rfl)
            (others_stops 2 (by omega) (W.heap.size + 1 + 1 + 1) (W.heap.size + 1 + 1 + 1 + 1) W.heap.size n c k (some ⟨b, off, none⟩) X Y hn U (by omega) (k3.cell 0) (k4.cell 0) (Rd.below (Rd.mono (Rd.below HR.out (HBW.out.mono hB)) (Nat.le_trans hB HBW.out.size)) hUB))
            (fun h k => h.trans k) ?hKb (Below.refl _ _) (fun _ => rfl)
            (InI W.heap.size k X Y t U) (fun _ _ _ => False) (ownFrom_blocks (fun s A B h hb => h.below hsz5 hb) (fun s A h => h.2.2.2)) (fun _ _ _ _ _ hs _ _ => hs) ?h0
            (fun x a' W' => ∃ Bx, U.heap.size ≤ Bx ∧ Blk W' Bx 38 #[.int .i64 (X x), .int .i64 (Y x)] ∧ a' = { tmps := #[.slice (some ⟨b, off, none⟩) n c, .int .i64 t, undef, .pointer (some ⟨w.heap.size, 0, none⟩), .int .i64 v, .int .i64 0, .map (some (w.heap.size + 1)), undef, u8, .int .i64 (k : Int), .pointer (some ⟨W.heap.size, 0, none⟩), .pointer (some ⟨W.heap.size + 1, 0, none⟩), .pointer (some ⟨W.heap.size + 1 + 1, 0, none⟩), .pointer (some ⟨Bx, 0, none⟩), v14, v15, .slice (some ⟨b, off, none⟩) n c, .int .i64 (n : Int), .bool (decide ((64 : Int) < (n : Int))), .map (some (w.heap.size + 1)), .slice (some ⟨b, off, none⟩) n c, .int .i64 (n : Int), .int .i64 (n : Int), .bool false, u24, u25, u26, u27, u28, u29, u30, .map (some (w.heap.size + 1)), .int .i64 ((Maps.size (setX X n) : Nat) : Int), .slice (some ⟨b, off, none⟩) n c, .int .i64 (n : Int), .bool false, .slice (some ⟨b, off, none⟩) n c, .int .i64 (n : Int), .int .i64 (k : Int), .bool true, .int .i64 (k : Int), .pointer (some ⟨b, off + k * 2, none⟩), .agg #[.int .i64 (X k), .int .i64 (Y k)], .pointer (some ⟨W.heap.size, 1, none⟩), .int .i64 (Y k), .int .i64 (Y k % 1073741789), .slice (some ⟨b, off, none⟩) n c, .int .i64 (k : Int), .func (.func 28) #[] #[.pointer (some ⟨W.heap.size + 1 + 1 + 1, 0, none⟩), .pointer (some ⟨W.heap.size + 1 + 1 + 1 + 1, 0, none⟩)], .agg #[.int .i64 (X x), .int .i64 (Y x)], v50, v51, v52, v53, v54, v55, v56, v57, v58, v59, v60, v61, v62, v63, v64, v65, v66, v67, v68, v69, v70, v71, v72, v73, v74, v75, v76, v77, v78, v79, v80, undef], defers := [] })
            (fun x a' s A B row hs hg hr => by obtain ⟨Bx, h1, h2, h3⟩ := hs; exact ⟨Bx, h1, blk_grown h2 hg (fun r e => (hr r e).2), h3⟩) ?assign ?body ?done ?stop
          case hKb =>
            intro W' l o o' hl ho hc _
            exact ⟨below_putObj (Below.refl _ _) (by omega) _, World.putObj_heap_other (by omega), World.putObj_heap_other (by omega)⟩
          case h0 =>
            refine ⟨⟨_, _, k1, k2, hyb, ⟨by omega, by omega⟩, (Pl.Cg.mod _).trans (Pl.Cg.of_eq (by simp [lp])), Pl.Cg.of_eq (by simp [lp])⟩, k0, KpO.refl _, Nat.le_refl _⟩
          case stop =>
            rintro D c' pre W' _ _ h _
            exact h.elim
          case assign =>
            intro l pre x W' K hI hK
            have hsI := hI.2.2.2
            dsimp only [ptv]
            gi_wp2
            exact hK _ _ ((KeepsOthers.alloc _ _).from _) (KpO.alloc (KpO.refl _) (by omega) (by omega) (by omega) _) (hI.below hsz5 (Below.mono (below_alloc _ _) hsI)) ⟨W'.heap.size, hsI, Blk.new _ _ _, rfl⟩
          case body =>
            rintro l pre x a' W' hl _ ⟨⟨a, b', h1, h2, h3, h4, h5, h6⟩, h7, h8, h9⟩ ⟨Bx, hBx, hbx, rfl⟩ _
            have hc11 : W'.cell? ⟨W.heap.size + 1, 0, none⟩ = some (.int .i64 a) := h1.cell 0
            have hc12 : W'.cell? ⟨W.heap.size + 1 + 1, 0, none⟩ = some (.int .i64 b') := h2.cell 0
            have hct : W'.cell? ⟨w.heap.size, 0, none⟩ = some (.int .i64 t) := ((HBU.out.below hUB HBU.out.lt).below h8.1 HBU.out.lt).cell 0
            have hcp : W'.cell? ⟨W.heap.size, 0, none⟩ = some (.int .i64 (X k)) := h7.cell 0
            have hcx : W'.cell? ⟨Bx, 0, none⟩ = some (.int .i64 (X x)) := hbx.cell 0
            have hfr11 : W'.frozen? ⟨W.heap.size + 1, 0, none⟩ = false := h1.frozen 0
            have hfr12 : W'.frozen? ⟨W.heap.size + 1 + 1, 0, none⟩ = false := h2.frozen 0
            have hlt0 := HBW.out.size
            have hBxl := hbx.lt
            have hne1 : W.heap.size + 1 ≠ w.heap.size := by omega
            have hne2 : W.heap.size + 1 ≠ Bx := by omega
            have hfa1 : ∀ o o', ((W'.alloc o).alloc o').frozen? ⟨W.heap.size + 1, 0, none⟩ = false := fun o o' => ((h1.alloc o).alloc o').frozen 0
            have hfa2 : ∀ o o', ((W'.alloc o).alloc o').frozen? ⟨W.heap.size + 1 + 1, 0, none⟩ = false := fun o o' => ((h2.alloc o).alloc o').frozen 0
            have hxb := emodQ (X x)
            have HXX := Lib.hid (HX.out x)
            have HNX := Lib.hid (i64_small (n := -(X x % 1073741789)) (by omega) (by omega))
            have hwn : IntKind.i64.wrap (-(X x % 1073741789)) = -(X x % 1073741789) := IntWalk.i64_in _ (by omega)
            have HT := Lib.hid ht
            have HA := Lib.hid (i64_small (n := a) (by omega) (by omega))
            have HB2 := Lib.hid (i64_small (n := b') (by omega) (by omega))
            have he1 := emodQ (t + -(X x % 1073741789))
            have he2 := emodQ (X k + -(X x % 1073741789))
            have HE1 := Lib.hid (i64_small (n := (t + -(X x % 1073741789)) % 1073741789) (by omega) (by omega))
            have HE2 := Lib.hid (i64_small (n := (X k + -(X x % 1073741789)) % 1073741789) (by omega) (by omega))
            have HF1 : Hid _ := Lib.hid h1
            have HF2 : Hid _ := Lib.hid h2
            have HF5 := Lib.hid h5
            have HF6 := Lib.hid h6
            have HF7 := Lib.hid h7
            have HF8 := Lib.hid h8
            clear h1 h2 h5 h6 h7 h8 hbx k0 k1 k2 k3 k4 hUB
            refine wpIn_block ?_
            refine wpIn_region_tail (fun w' => w'.cell? ⟨W.heap.size + 1, 0, none⟩ = some (.int .i64 a)) (fun w' => w'.cell? ⟨W.heap.size + 1 + 1, 0, none⟩ = some (.int .i64 b') ∧ w'.cell? ⟨w.heap.size, 0, none⟩ = some (.int .i64 t) ∧ w'.cell? ⟨W.heap.size, 0, none⟩ = some (.int .i64 (X k)) ∧ w'.cell? ⟨Bx, 0, none⟩ = some (.int .i64 (X x))) 19 20 (by kernel_rfl) (by kernel_rfl) ?hQ ⟨hc11, hc12, hct, hcp, hcx⟩ (fun hHeld => ?_)
            case hQ =>
              rintro ⟨_, _, h⟩
              exact h
            refine wpAnyT_takeA (i := 0) (v := .int .i64 a) rfl (by kernel_rfl) (by kernel_rfl) (by kernel_rfl) (by kernel_rfl) (by kernel_rfl) (by decide) (by decide) (fun _ _ _ h => h) (Or.inl ⟨by rfl, ?_⟩) (by assumption) ?_
            · intro w' hSw
              go_simp
            refine wpAnyT_takeB (i := 1) (v := .int .i64 t) rfl (by kernel_rfl) (by kernel_rfl) (by kernel_rfl) (by kernel_rfl) (by kernel_rfl) (by decide) (by decide) (fun _ _ _ h => h) (Or.inl ⟨by rfl, ?_⟩) (by assumption) ?_
            · intro w' hSw
              go_simp
            refine wpAnyT_takeB (i := 2) (v := .pointer (some ⟨Bx, 0, none⟩)) rfl (by kernel_rfl) (by kernel_rfl) (by kernel_rfl) (by kernel_rfl) (by kernel_rfl) (by decide) (by decide) (fun _ _ _ h => h) (Or.inl ⟨by rfl, ?_⟩) (by assumption) ?_
            · intro w' hSw
              go_simp
            refine wpAnyT_takeB (i := 3) (v := .int .i64 (X x)) rfl (by kernel_rfl) (by kernel_rfl) (by kernel_rfl) (by kernel_rfl) (by kernel_rfl) (by decide) (by decide) (fun _ _ _ h => h) (Or.inl ⟨by rfl, ?_⟩) (by assumption) ?_
            · intro w' hSw
              go_simp
            refine wpAnyT_takeB (i := 9) (v := .int .i64 b') rfl (by kernel_rfl) (by kernel_rfl) (by kernel_rfl) (by kernel_rfl) (by kernel_rfl) (by decide) (by decide) (fun _ _ _ h => h) (Or.inl ⟨by rfl, ?_⟩) (by assumption) ?_
            · intro w' hSw
              go_simp
            refine wpAnyT_takeB (i := 10) (v := .pointer (some ⟨W.heap.size, 0, none⟩)) rfl (by kernel_rfl) (by kernel_rfl) (by kernel_rfl) (by kernel_rfl) (by kernel_rfl) (by decide) (by decide) (fun _ _ _ h => h) (Or.inl ⟨by rfl, ?_⟩) (by assumption) ?_
            · intro w' hSw
              go_simp
            refine wpAnyT_takeB (i := 11) (v := .int .i64 (X k)) rfl (by kernel_rfl) (by kernel_rfl) (by kernel_rfl) (by kernel_rfl) (by kernel_rfl) (by decide) (by decide) (fun _ _ _ h => h) (Or.inl ⟨by rfl, ?_⟩) (by assumption) ?_
            · intro w' hSw
              go_simp
            refine wpAnyT_takeB (i := 12) (v := .pointer (some ⟨Bx, 0, none⟩)) rfl (by kernel_rfl) (by kernel_rfl) (by kernel_rfl) (by kernel_rfl) (by kernel_rfl) (by decide) (by decide) (fun _ _ _ h => h) (Or.inl ⟨by rfl, ?_⟩) (by assumption) ?_
            · intro w' hSw
              go_simp
            refine wpAnyT_takeB (i := 13) (v := .int .i64 (X x)) rfl (by kernel_rfl) (by kernel_rfl) (by kernel_rfl) (by kernel_rfl) (by kernel_rfl) (by decide) (by decide) (fun _ _ _ h => h) (Or.inl ⟨by rfl, ?_⟩) (by assumption) ?_
            · intro w' hSw
              go_simp
            simp only [Act.put, List.setIfInBounds_toArray]
            refine wpAnyT_one (i := 4) (by kernel_rfl) rfl (Ob.head) (fun K hK => ?_)
            go_simp
            refine (mod_12 _ _ HXX.out).mono ?_
            rintro e w' ⟨rfl, rfl⟩
            go_wp2_with fail
            refine hK.out _ _ ?_ (fun hHeld => ?_)
            · go_keep
            clear hK K
            refine wpAnyT_takeB (i := 5) (v := .int .i64 (-(X x % 1073741789))) rfl (by kernel_rfl) (by kernel_rfl) (by kernel_rfl) (by kernel_rfl) (by kernel_rfl) (by decide) (by decide) (fun _ _ _ h => h) (Or.inl ⟨by rfl, ?_⟩) (by assumption) ?_
            · intro w' hSw
              go_simp
            refine wpAnyT_one (i := 6) (by kernel_rfl) rfl (Ob.head) (fun K hK => ?_)
            go_simp
            refine hK.out _ _ ?_ (fun hHeld => ?_)
            · go_keep
            clear hK K
            have HB1 : Hid (Blk (W'.alloc (.cells #[.int .i64 t, .int .i64 (-(X x % 1073741789))] 3)).drew W'.heap.size 3 #[.int .i64 t, .int .i64 (-(X x % 1073741789))]) := Lib.hid (Blk.new _ _ _)
            refine wpAnyT_one (i := 7) (by kernel_rfl) rfl (Ob.head) (fun K hK => ?_)
            go_simp
            refine (sum_blk _ _ _ _ HT.out HNX.out HB1.out).mono ?_
            rintro e w' ⟨rfl, rfl⟩
            go_wp2_with fail
            refine hK.out _ _ ?_ (fun hHeld => ?_)
            · go_keep
            clear hK K
            refine wpAnyT_one (i := 8) (by kernel_rfl) rfl (Ob.head) (fun K hK => ?_)
            go_simp
            refine (mul_16 _ _ _ HA.out HE1.out).mono ?_
            rintro e w' ⟨rfl, rfl⟩
            go_wp2_with fail
            refine hK.out _ _ ?_ (fun hHeld => ?_)
            · go_keep
            clear hK K
            refine wpAnyT_one (i := 14) (by kernel_rfl) rfl (Ob.head) (fun K hK => ?_)
            go_simp
            refine (mod_12 _ _ HXX.out).mono ?_
            rintro e w' ⟨rfl, rfl⟩
            go_wp2_with fail
            refine hK.out _ _ ?_ (fun hHeld => ?_)
            · go_keep
            clear hK K
            refine wpAnyT_takeB (i := 15) (v := .int .i64 (-(X x % 1073741789))) rfl (by kernel_rfl) (by kernel_rfl) (by kernel_rfl) (by kernel_rfl) (by kernel_rfl) (by decide) (by decide) (fun _ _ _ h => h) (Or.inl ⟨by rfl, ?_⟩) (by assumption) ?_
            · intro w' hSw
              go_simp
            refine wpAnyT_one (i := 16) (by kernel_rfl) rfl (Ob.head) (fun K hK => ?_)
            go_simp
            refine hK.out _ _ ?_ (fun hHeld => ?_)
            · go_keep
            clear hK K
            have HB3 : Hid (Blk ((W'.alloc (.cells #[.int .i64 t, .int .i64 (-(X x % 1073741789))] 3)).alloc (.cells #[.int .i64 (X k), .int .i64 (-(X x % 1073741789))] 3)).drew (W'.heap.size + 1) 3 #[.int .i64 (X k), .int .i64 (-(X x % 1073741789))]) := Lib.hid (by have := Blk.new (W'.alloc (.cells #[.int .i64 t, .int .i64 (-(X x % 1073741789))] 3)) 3 #[.int .i64 (X k), .int .i64 (-(X x % 1073741789))]; rw [World.size_alloc] at this; exact this)
            refine wpAnyT_one (i := 17) (by kernel_rfl) rfl (Ob.head) (fun K hK => ?_)
            go_simp
            refine (sum_blk _ _ _ _ (HX.out k) HNX.out HB3.out).mono ?_
            rintro e w' ⟨rfl, rfl⟩
            go_wp2_with fail
            refine hK.out _ _ ?_ (fun hHeld => ?_)
            · go_keep
            clear hK K
            refine wpAnyT_one (i := 18) (by kernel_rfl) rfl (Ob.head) (fun K hK => ?_)
            go_simp
            refine (mul_16 _ _ _ HB2.out HE2.out).mono ?_
            rintro e w' ⟨rfl, rfl⟩
            go_wp2_with fail
            refine hK.out _ _ ?_ (fun hHeld => ?_)
            · go_keep
            clear hK K
            refine wpAnyT_one (i := 19) (by kernel_rfl) rfl (Ob.mid (by kernel_rfl)) (fun K hK => ?_)
            go_simp
            refine hK.out _ _ ?_ (fun hHeld => ?_)
            · go_keep
            clear hK K
            refine wpAnyT_one (i := 20) (by kernel_rfl) rfl (Ob.last (by kernel_rfl) (by kernel_rfl)) (fun K hK => ?_)
            go_simp
            refine hK.out _ _ trivial (fun _ => ?_)
            clear hK K
            refine wpAnyT_done (by kernel_rfl) ?_
            exact InI.store (U := U) (x := x) (W1 := ((W'.alloc (.cells #[.int .i64 t, .int .i64 (-(X x % 1073741789))] 3)).alloc (.cells #[.int .i64 (X k), .int .i64 (-(X x % 1073741789))] 3)).drew) { tmps := #[], defers := [] } HF8.out HF7.out h9 hsz5 HF1.out HF2.out (((below_alloc _ _).trans (Below.mono (below_alloc _ _) (by simp))).drew) (((KeepsOthers.alloc _ _).trans (KeepsOthers.alloc _ _)).trans (KeepsOthers.drew _)) HF5.out HF6.out ((Pl.Cg.mod _).trans ((Pl.Cg.refl _).mul (neg_mod _ _))) ((Pl.Cg.mod _).trans ((Pl.Cg.refl _).mul (neg_mod _ _))) (emodQ _) (emodQ _)
          case done =>
            rintro D ys W' hD rfl ⟨⟨a, b', h1, h2, h3, h4, h5, h6⟩, h7, h8, h9⟩ hKD
            have hc11 : W'.cell? ⟨W.heap.size + 1, 0, none⟩ = some (.int .i64 a) := h1.cell 0
            have hc12 : W'.cell? ⟨W.heap.size + 1 + 1, 0, none⟩ = some (.int .i64 b') := h2.cell 0
            have HST := Lib.hid (tm_step HV.out h5 h6)
            have HBW2 : Hid (Below w.heap.size w W') := Lib.hid (HBW.out.trans ((hUB.mono HBW.out.size).trans (h8.1.mono HBW.out.size)))
            have HBT2 : Hid (Blk W' w.heap.size 3 #[.int .i64 t]) := Lib.hid ((HBU.out.below hUB HBU.out.lt).below h8.1 HBU.out.lt)
            have HM2 : Hid (Marks w.heap.size W' (D :: Ds)) := Lib.hid (((HM.out.below hUB HM.out.lt).below h8.1 HM.out.lt).cons hKD (by have := HBW.out.size; omega) (fun D' hD' => by have := HM.out.lt D' hD'; omega))
            have HA := Lib.hid (i64_small (n := a) (by omega) (by omega))
            have HB2 := Lib.hid (i64_small (n := b') (by omega) (by omega))
            have hin := Pl.inv_range b'
            have HIN := Lib.hid (i64_small (n := inv b') (by omega) (by omega))
            have HVR := Lib.hid (i64_small (n := v) (by omega) (by omega))
            have hm2 := emodQ (a * inv b')
            have HMR := Lib.hid (i64_small (n := a * inv b' % 1073741789) (by omega) (by omega))
            have hm3 := emodQ (v + a * inv b')
            have hsW' : W.heap.size + 5 ≤ W'.heap.size := by omega
            clear h1 h2 h5 h6 h7 h8 hKD k0 k1 k2 k3 k4 hUB
            go_wp2_with fail
            refine (inv_10 _ _ HB2.out).mono ?_
            rintro e w' ⟨rfl, rfl⟩
            go_wp2_with fail
            refine (mul_16 _ _ _ HA.out HIN.out).mono ?_
            rintro e w' ⟨rfl, rfl⟩
            go_wp2_with fail
            refine (sum_two _ _ _ HVR.out HMR.out).mono ?_
            rintro e w' ⟨rfl, rfl⟩
            go_wp2_with fail
            exact ⟨Lib.hid ⟨k + 1, _, D :: Ds, _, _, _, _, _, _, _, _, _, _, _, _, _, _, _, _, _, _, _, _, _, _, _, _, _, _, _, _, _, _, _, _, _, _, _, _, _, _, _, _, _, _, _, _, _, _, _, _, _, by omega, hm3.1, hm3.2, HST.out, below_then HBW2.out (below_alloc _ _) (Nat.le_refl _), HBT2.out.alloc _, HM2.out.below (below_alloc _ _) HM2.out.lt, rfl⟩, by simp [intOf]; omega⟩
        · obtain rfl : n = k := by omega
          go_wp2_with fail
          refine leaves_marks (v := .tuple #[.int .i64 (lagr n X Y t % 1073741789), .int .i64 0]) (B := w.heap.size) (w := w) ?_ ?_ Ds _ HM.out HBW.out
          · intro W'
            rw [results_tmp2 rfl]
            rw [lagr_tm, ← HV.out.eq, Int.emod_eq_of_lt hv0 hv1]
            rfl
          · exact fun W' hW' => ⟨rfl, hW'⟩

end Go.Proofs.Ytklngacahhlhmaa
