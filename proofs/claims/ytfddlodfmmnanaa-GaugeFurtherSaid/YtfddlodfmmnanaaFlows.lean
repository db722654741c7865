/- Contracts of Flow, and of the reference's. No condition. -/
import Derived.Test.YtfddlodfmmnanaaMono
import Derived.Test.YtfddlodfmmnanaaRefCheck
namespace Go.Proofs.Ytfddlodfmmnanaa
open Go.RowKit

theorem results_row2 {P : Program} {fn : Func} {p u : Tmp} {ty : TypeId} (h : fn.results = #[.cell p ty, .tmp u]) (tmps : Array Value) (w : World) (g : Nat) (t : TypeId) (cs : Array Value) (fr : Nat × Nat) (d : TypeDesc)
    (hp : tmps.getD p undef = .pointer (some ⟨g, 0, none⟩)) (hg : w.heap[g]? = some (.cells cs t fr))
    (hu : P.underlying ty = some d) (hd : (match d with | .struct _ | .array _ _ => true | _ => false) = true) (hi : (P.info? ty).map (·.size) = some cs.size) :
    (results fn tmps).run P w = .ok (.tuple #[.agg cs, tmps.getD u undef]) w := by
  have hp' : tmps[p]?.getD undef = .pointer (some ⟨g, 0, none⟩) := by simpa using hp
  simp [results, h, hp', asAddr, run_loadVar_row w g t ty cs fr d hg hu hd hi]
theorem results_row3 {P : Program} {fn : Func} {p u v : Tmp} {ty : TypeId} (h : fn.results = #[.cell p ty, .tmp u, .tmp v]) (tmps : Array Value) (w : World) (g : Nat) (t : TypeId) (cs : Array Value) (fr : Nat × Nat) (d : TypeDesc)
    (hp : tmps.getD p undef = .pointer (some ⟨g, 0, none⟩)) (hg : w.heap[g]? = some (.cells cs t fr))
    (hu : P.underlying ty = some d) (hd : (match d with | .struct _ | .array _ _ => true | _ => false) = true) (hi : (P.info? ty).map (·.size) = some cs.size) :
    (results fn tmps).run P w = .ok (.tuple #[.agg cs, tmps.getD u undef, tmps.getD v undef]) w := by
  have hp' : tmps[p]?.getD undef = .pointer (some ⟨g, 0, none⟩) := by simpa using hp
  simp [results, h, hp', asAddr, run_loadVar_row w g t ty cs fr d hg hu hd hi]

theorem chk_zero {no rc cl dr si : Int} {n : Nat} {S F : Nat → Int} (h : chk no rc cl dr si n S F = 0) : n ≤ 64 ∧ n ≠ 0 ∧ headB no rc cl dr si n = true ∧ rowsB S F n = true := by
  unfold chk at h
  split at h
  · omega
  · split at h
    · rename_i h1 h2
      have h3 := h2.1
      simp [headB] at h3
      exact ⟨by omega, h3.2.2.2.2, h2.1, h2.2⟩
    · omega
theorem chk_range (no rc cl dr si : Int) (n : Nat) (S F : Nat → Int) : chk no rc cl dr si n S F = 0 ∨ chk no rc cl dr si n S F = 2 ∨ chk no rc cl dr si n S F = 240 := by
  unfold chk
  split
  · simp
  · split <;> simp
theorem head_in {no rc cl dr si : Int} {n : Nat} (h : headB no rc cl dr si n = true) : (0 ≤ no ∧ no ≤ 1048576) ∧ (0 ≤ rc ∧ rc ≤ 63) ∧ (0 ≤ cl ∧ cl ≤ 1000) ∧ (0 ≤ dr ∧ dr ≤ 1000) ∧ 0 ≤ si ∧ si ≤ 4096 := by
  simp [headB, inB] at h
  omega

/-- the error of Flow, and the two ends -/
def flE (r s : Int) : Int := if r = 0 then if inB 1048576 s = true then 0 else 1 else r
def flR (E v : Int) : Int := if E = 0 then v else 0
/-- a range and an error -/
def rngE (E lo hi : Int) : Value := .tuple #[.agg #[.int .i64 (flR E lo), .int .i64 (flR E hi)], .int .i64 E]

set_option maxRecDepth 100000 in
set_option maxHeartbeats 2000000 in
theorem Flow_11 (no rc cl dr si : Int) (A : Option Addr) (n c B : Nat) (S F : Nat → Int) (s : Int) (w : World) (hm : n ≤ 9223372036854775807) (hB : B ≤ w.heap.size) (hr : n ≤ 64 → RdP w B A n S F) :
    Calls Try.prog 11 #[gv no rc cl dr si A n c, .int .i64 s] w fun e w' => e = .returned (rngE (flE (chk no rc cl dr si n S F) s) (fLo S F n s) (fHi S F n s)) ∧ Below w.heap.size w w' := by
  have HC : Hid (∀ W, (n ≤ 64 → RdP W B A n S F) → B ≤ W.heap.size → Calls Try.prog 13 #[gv no rc cl dr si A n c] W fun e w' => e = .returned (.int .i64 (chk no rc cl dr si n S F)) ∧ Below W.heap.size W w') :=
    Lib.hid fun W h1 h2 => check_13 no rc cl dr si A n c B S F W hm h2 h1
  have HZ : Hid (chk no rc cl dr si n S F = 0 → n ≤ 64 ∧ n ≠ 0 ∧ rowsB S F n = true) := Lib.hid fun h => ⟨(chk_zero h).1, (chk_zero h).2.1, (chk_zero h).2.2.2⟩
  have HR := Lib.hid hr
  clear hr
  obtain ⟨lo, hlo⟩ : ∃ lo, lo = fLo S F n s := ⟨_, rfl⟩
  obtain ⟨hi, hhi⟩ : ∃ hi, hi = fHi S F n s := ⟨_, rfl⟩
  rw [← hlo, ← hhi]
  have HFL : Hid (∀ W, n ≠ 0 → n ≤ 64 → rowsB S F n = true → RdP W B A n S F → B ≤ W.heap.size → Calls Try.prog 20 #[gv no rc cl dr si A n c, .int .i64 s] W fun e w' => e = .returned (.agg #[.int .i64 lo, .int .i64 hi]) ∧ Below W.heap.size W w') :=
    Lib.hid fun W h1 h2 h3 h4 h5 => by rw [hlo, hhi]; exact flow_20 no rc cl dr si A n c B S F s W h1 h2 h5 h4 h3
  clear hlo hhi
  generalize chk no rc cl dr si n S F = r at HC HZ ⊢
  unfold gv at HC HFL ⊢
  go_enter Try.func11, Try.ntmps11
  go_wp2_with fail
  obtain ⟨w2, hw2⟩ : ∃ w2, w2 = (w.alloc (.cells #[.int .i64 no, .int .i64 rc, .int .i64 cl, .int .i64 dr, .int .i64 si, .slice A n c] 24)).alloc (.cells #[.int .i64 0, .int .i64 0] 27) := ⟨_, rfl⟩
  have HG2 : Hid (Blk w2 w.heap.size 24 #[.int .i64 no, .int .i64 rc, .int .i64 cl, .int .i64 dr, .int .i64 si, .slice A n c]) := Lib.hid (hw2 ▸ (Blk.new _ _ _).alloc _)
  have HF2 : Hid (Blk w2 (w.heap.size + 1) 27 #[.int .i64 0, .int .i64 0]) := Lib.hid (by have := Blk.new (w.alloc (.cells #[.int .i64 no, .int .i64 rc, .int .i64 cl, .int .i64 dr, .int .i64 si, .slice A n c] 24)) 27 #[.int .i64 0, .int .i64 0]; rw [World.size_alloc] at this; rw [hw2]; exact this)
  have HB2 : Hid (Below w.heap.size w w2) := Lib.hid (by rw [hw2]; (repeat (first | exact Below.refl _ _ | exact below_alloc _ _ | refine Below.alloc ?_ (by simp; omega) _ | refine Below.alloc ?_ (by simp) _)))
  rw [← hw2]
  clear hw2
  have hs2 := HF2.out.lt
  refine (HC.out _ (fun h => (HR.out h).below (HB2.out.mono hB)) (by omega)).mono ?_
  rintro e w3 ⟨rfl, hb3⟩
  have HB3 := Lib.hid (HB2.out.trans (hb3.mono (by omega)))
  have HG3 := Lib.hid (HG2.out.below hb3 (by omega))
  have HF3 := Lib.hid (HF2.out.below hb3 (by omega))
  clear hb3 HB2 HG2 HF2 HC
  have hs3 := HF3.out.lt
  have cf0 : w3.cell? ⟨(w.heap.size+1), 0, none⟩ = some (.int .i64 0) := HF3.out.cell 0
  have cf1 : w3.cell? ⟨(w.heap.size+1), 1, none⟩ = some (.int .i64 0) := HF3.out.cell 1
  have hf0 := HF3.out.frozen 0
  have hf1 := HF3.out.frozen 1
  have cg0 : w3.cell? ⟨w.heap.size, 0, none⟩ = some (.int .i64 no) := HG3.out.cell 0
  have cg1 : w3.cell? ⟨w.heap.size, 1, none⟩ = some (.int .i64 rc) := HG3.out.cell 1
  have cg2 : w3.cell? ⟨w.heap.size, 2, none⟩ = some (.int .i64 cl) := HG3.out.cell 2
  have cg3 : w3.cell? ⟨w.heap.size, 3, none⟩ = some (.int .i64 dr) := HG3.out.cell 3
  have cg4 : w3.cell? ⟨w.heap.size, 4, none⟩ = some (.int .i64 si) := HG3.out.cell 4
  have cg5 : w3.cell? ⟨w.heap.size, 5, none⟩ = some (.slice A n c) := HG3.out.cell 5
  have hgw3 : w.heap.size < w3.heap.size := by omega
  by_cases hr0 : r = 0
  · obtain ⟨hz1, hz2, hz3⟩ := HZ.out hr0
    have HROW := Lib.hid hz3
    clear HZ hz3
    subst hr0
    go_wp2_with fail
    refine (within_one _ _ _ _ (by simp)).mono ?_
    rintro e wa ⟨rfl, hwa⟩
    have hba : Below w3.heap.size w3 wa := hwa ▸ below_alloc _ _
    clear hwa
    have HBa := Lib.hid (HB3.out.trans (hba.mono (by omega)))
    have HGa := Lib.hid (HG3.out.below hba (by omega))
    have HFa := Lib.hid (HF3.out.below hba (by omega))
    clear hba cf0 cf1 hf0 hf1 cg0 cg1 cg2 cg3 cg4 cg5
    have hsa := HFa.out.lt
    have cf0 : wa.cell? ⟨w.heap.size+1, 0, none⟩ = some (.int .i64 0) := HFa.out.cell 0
    have cf1 : wa.cell? ⟨w.heap.size+1, 1, none⟩ = some (.int .i64 0) := HFa.out.cell 1
    have hf0 := HFa.out.frozen 0
    have hf1 := HFa.out.frozen 1
    have cg0 : wa.cell? ⟨w.heap.size, 0, none⟩ = some (.int .i64 no) := HGa.out.cell 0
    have cg1 : wa.cell? ⟨w.heap.size, 1, none⟩ = some (.int .i64 rc) := HGa.out.cell 1
    have cg2 : wa.cell? ⟨w.heap.size, 2, none⟩ = some (.int .i64 cl) := HGa.out.cell 2
    have cg3 : wa.cell? ⟨w.heap.size, 3, none⟩ = some (.int .i64 dr) := HGa.out.cell 3
    have cg4 : wa.cell? ⟨w.heap.size, 4, none⟩ = some (.int .i64 si) := HGa.out.cell 4
    have cg5 : wa.cell? ⟨w.heap.size, 5, none⟩ = some (.slice A n c) := HGa.out.cell 5
    have hgwa : w.heap.size < wa.heap.size := by omega
    cases h1 : inB 1048576 s
    · have HE : Hid (flE 0 s = 1) := Lib.hid (by simp [flE, h1])
      clear h1
      go_wp2_with fail
      ((try simp only [Exit.inBlock, Exit.then]); refine bodyPost_ret (results_row2 rfl _ _ _ 27 _ (0, 0) _ rfl ((HFa.out.set_ 0 (.int .i64 0)).set_ 1 (.int .i64 0)) Try.underlying27 rfl (by kernel_rfl)) rfl ?_)
      exact ⟨ret_val (by rw [HE.out]; simp [rngE, flR]), (HBa.out.setCell (p := ⟨w.heap.size + 1, 0, none⟩) (by simp) _).setCell (p := ⟨w.heap.size + 1, 1, none⟩) (by simp) _⟩
    have HE : Hid (flE 0 s = 0) := Lib.hid (by simp [flE, h1])
    clear h1
    go_wp2_with fail
    refine (HFL.out _ hz2 hz1 HROW.out (((HR.out hz1).below (HBa.out.mono hB))) (by omega)).mono ?_
    rintro e w4 ⟨rfl, hb4⟩
    have HB4 := Lib.hid (HBa.out.trans (hb4.mono (by omega)))
    have HF4 := Lib.hid (HFa.out.below hb4 (by omega))
    clear hb4 cf0 cf1 hf0 hf1 cg0 cg1 cg2 cg3 cg4 cg5
    have cf0 : w4.cell? ⟨w.heap.size + 1, 0, none⟩ = some (.int .i64 0) := HF4.out.cell 0
    have cf1 : w4.cell? ⟨w.heap.size + 1, 1, none⟩ = some (.int .i64 0) := HF4.out.cell 1
    have hf0 := HF4.out.frozen 0
    have hf1 := HF4.out.frozen 1
    go_wp2_with fail
    ((try simp only [Exit.inBlock, Exit.then]); refine bodyPost_ret (results_row2 rfl _ _ _ 27 _ (0, 0) _ rfl ((HF4.out.set_ 0 (.int .i64 lo)).set_ 1 (.int .i64 hi)) Try.underlying27 rfl (by kernel_rfl)) rfl ?_)
    exact ⟨ret_val (by rw [HE.out]; simp [rngE, flR]), (HB4.out.setCell (p := ⟨w.heap.size + 1, 0, none⟩) (by simp) _).setCell (p := ⟨w.heap.size + 1, 1, none⟩) (by simp) _⟩
  · have hr0' : (r == 0) = false := by rw [beq_eq_false_iff_ne]; exact hr0
    have HE : Hid (flE r s = r) := Lib.hid (by simp [flE, hr0])
    have HN : Hid (r ≠ 0) := Lib.hid hr0
    clear HZ
    go_wp2_with fail
    ((try simp only [Exit.inBlock, Exit.then]); refine bodyPost_ret (results_row2 rfl _ _ _ 27 _ (0, 0) _ rfl ((HF3.out.set_ 0 (.int .i64 0)).set_ 1 (.int .i64 0)) Try.underlying27 rfl (by kernel_rfl)) rfl ?_)
    exact ⟨ret_val (by rw [HE.out]; simp [rngE, flR, HN.out]), (HB3.out.setCell (p := ⟨w.heap.size + 1, 0, none⟩) (by simp) _).setCell (p := ⟨w.heap.size + 1, 1, none⟩) (by simp) _⟩

set_option maxRecDepth 100000 in
set_option maxHeartbeats 2000000 in
theorem ref_Flow_12 (no rc cl dr si : Int) (A : Option Addr) (n c B : Nat) (S F : Nat → Int) (s : Int) (w : World) (hm : n ≤ 9223372036854775807) (hB : B ≤ w.heap.size) (hr : n ≤ 64 → RdP w B A n S F) :
    Calls Try.prog 12 #[gv no rc cl dr si A n c, .int .i64 s] w fun e w' => e = .returned (rngE (flE (chk no rc cl dr si n S F) s) (fLo S F n s) (fHi S F n s)) ∧ Below w.heap.size w w' := by
  have HC : Hid (∀ W, (n ≤ 64 → RdP W B A n S F) → B ≤ W.heap.size → Calls Try.prog 14 #[gv no rc cl dr si A n c] W fun e w' => e = .returned (.int .i64 (chk no rc cl dr si n S F)) ∧ Below W.heap.size W w') :=
    Lib.hid fun W h1 h2 => ref_check_14 no rc cl dr si A n c B S F W hm h2 h1
  have HZ : Hid (chk no rc cl dr si n S F = 0 → n ≤ 64 ∧ n ≠ 0 ∧ rowsB S F n = true) := Lib.hid fun h => ⟨(chk_zero h).1, (chk_zero h).2.1, (chk_zero h).2.2.2⟩
  have HR := Lib.hid hr
  clear hr
  obtain ⟨lo, hlo⟩ : ∃ lo, lo = fLo S F n s := ⟨_, rfl⟩
  obtain ⟨hi, hhi⟩ : ∃ hi, hi = fHi S F n s := ⟨_, rfl⟩
  rw [← hlo, ← hhi]
  have HFL : Hid (∀ W, n ≠ 0 → n ≤ 64 → rowsB S F n = true → RdP W B A n S F → B ≤ W.heap.size → Calls Try.prog 22 #[gv no rc cl dr si A n c, .int .i64 s] W fun e w' => e = .returned (.agg #[.int .i64 lo, .int .i64 hi]) ∧ Below W.heap.size W w') :=
    Lib.hid fun W h1 h2 h3 h4 h5 => by rw [hlo, hhi]; exact ref_flow_22 no rc cl dr si A n c B S F s W h1 h2 h5 h4 h3
  clear hlo hhi
  generalize chk no rc cl dr si n S F = r at HC HZ ⊢
  unfold gv at HC HFL ⊢
  go_enter Try.func12, Try.ntmps12
  go_wp2_with fail
  obtain ⟨w2, hw2⟩ : ∃ w2, w2 = (w.alloc (.cells #[.int .i64 no, .int .i64 rc, .int .i64 cl, .int .i64 dr, .int .i64 si, .slice A n c] 24)).alloc (.cells #[.int .i64 0, .int .i64 0] 27) := ⟨_, rfl⟩
  have HG2 : Hid (Blk w2 w.heap.size 24 #[.int .i64 no, .int .i64 rc, .int .i64 cl, .int .i64 dr, .int .i64 si, .slice A n c]) := Lib.hid (hw2 ▸ (Blk.new _ _ _).alloc _)
  have HF2 : Hid (Blk w2 (w.heap.size + 1) 27 #[.int .i64 0, .int .i64 0]) := Lib.hid (by have := Blk.new (w.alloc (.cells #[.int .i64 no, .int .i64 rc, .int .i64 cl, .int .i64 dr, .int .i64 si, .slice A n c] 24)) 27 #[.int .i64 0, .int .i64 0]; rw [World.size_alloc] at this; rw [hw2]; exact this)
  have HB2 : Hid (Below w.heap.size w w2) := Lib.hid (by rw [hw2]; (repeat (first | exact Below.refl _ _ | exact below_alloc _ _ | refine Below.alloc ?_ (by simp; omega) _ | refine Below.alloc ?_ (by simp) _)))
  rw [← hw2]
  clear hw2
  have hs2 := HF2.out.lt
  refine (HC.out _ (fun h => (HR.out h).below (HB2.out.mono hB)) (by omega)).mono ?_
  rintro e w3 ⟨rfl, hb3⟩
  have HB3 := Lib.hid (HB2.out.trans (hb3.mono (by omega)))
  have HG3 := Lib.hid (HG2.out.below hb3 (by omega))
  have HF3 := Lib.hid (HF2.out.below hb3 (by omega))
  clear hb3 HB2 HG2 HF2 HC
  have hs3 := HF3.out.lt
  have cf0 : w3.cell? ⟨(w.heap.size+1), 0, none⟩ = some (.int .i64 0) := HF3.out.cell 0
  have cf1 : w3.cell? ⟨(w.heap.size+1), 1, none⟩ = some (.int .i64 0) := HF3.out.cell 1
  have hf0 := HF3.out.frozen 0
  have hf1 := HF3.out.frozen 1
  have cg0 : w3.cell? ⟨w.heap.size, 0, none⟩ = some (.int .i64 no) := HG3.out.cell 0
  have cg1 : w3.cell? ⟨w.heap.size, 1, none⟩ = some (.int .i64 rc) := HG3.out.cell 1
  have cg2 : w3.cell? ⟨w.heap.size, 2, none⟩ = some (.int .i64 cl) := HG3.out.cell 2
  have cg3 : w3.cell? ⟨w.heap.size, 3, none⟩ = some (.int .i64 dr) := HG3.out.cell 3
  have cg4 : w3.cell? ⟨w.heap.size, 4, none⟩ = some (.int .i64 si) := HG3.out.cell 4
  have cg5 : w3.cell? ⟨w.heap.size, 5, none⟩ = some (.slice A n c) := HG3.out.cell 5
  have hgw3 : w.heap.size < w3.heap.size := by omega
  by_cases hr0 : r = 0
  · obtain ⟨hz1, hz2, hz3⟩ := HZ.out hr0
    have HROW := Lib.hid hz3
    clear HZ hz3
    subst hr0
    go_wp2_with fail
    refine (refw _ _ _).mono ?_
    rintro e wa ⟨rfl, hwa⟩
    have hba : Below w3.heap.size w3 wa := hwa ▸ Below.refl _ _
    clear hwa
    have HBa := Lib.hid (HB3.out.trans (hba.mono (by omega)))
    have HGa := Lib.hid (HG3.out.below hba (by omega))
    have HFa := Lib.hid (HF3.out.below hba (by omega))
    clear hba cf0 cf1 hf0 hf1 cg0 cg1 cg2 cg3 cg4 cg5
    have hsa := HFa.out.lt
    have cf0 : wa.cell? ⟨w.heap.size+1, 0, none⟩ = some (.int .i64 0) := HFa.out.cell 0
    have cf1 : wa.cell? ⟨w.heap.size+1, 1, none⟩ = some (.int .i64 0) := HFa.out.cell 1
    have hf0 := HFa.out.frozen 0
    have hf1 := HFa.out.frozen 1
    have cg0 : wa.cell? ⟨w.heap.size, 0, none⟩ = some (.int .i64 no) := HGa.out.cell 0
    have cg1 : wa.cell? ⟨w.heap.size, 1, none⟩ = some (.int .i64 rc) := HGa.out.cell 1
    have cg2 : wa.cell? ⟨w.heap.size, 2, none⟩ = some (.int .i64 cl) := HGa.out.cell 2
    have cg3 : wa.cell? ⟨w.heap.size, 3, none⟩ = some (.int .i64 dr) := HGa.out.cell 3
    have cg4 : wa.cell? ⟨w.heap.size, 4, none⟩ = some (.int .i64 si) := HGa.out.cell 4
    have cg5 : wa.cell? ⟨w.heap.size, 5, none⟩ = some (.slice A n c) := HGa.out.cell 5
    have hgwa : w.heap.size < wa.heap.size := by omega
    cases h1 : inB 1048576 s
    · have HE : Hid (flE 0 s = 1) := Lib.hid (by simp [flE, h1])
      clear h1
      go_wp2_with fail
      ((try simp only [Exit.inBlock, Exit.then]); refine bodyPost_ret (results_row2 rfl _ _ _ 27 _ (0, 0) _ rfl ((HFa.out.set_ 0 (.int .i64 0)).set_ 1 (.int .i64 0)) Try.underlying27 rfl (by kernel_rfl)) rfl ?_)
      exact ⟨ret_val (by rw [HE.out]; simp [rngE, flR]), (HBa.out.setCell (p := ⟨w.heap.size + 1, 0, none⟩) (by simp) _).setCell (p := ⟨w.heap.size + 1, 1, none⟩) (by simp) _⟩
    have HE : Hid (flE 0 s = 0) := Lib.hid (by simp [flE, h1])
    clear h1
    go_wp2_with fail
    refine (HFL.out _ hz2 hz1 HROW.out (((HR.out hz1).below (HBa.out.mono hB))) (by omega)).mono ?_
    rintro e w4 ⟨rfl, hb4⟩
    have HB4 := Lib.hid (HBa.out.trans (hb4.mono (by omega)))
    have HF4 := Lib.hid (HFa.out.below hb4 (by omega))
    clear hb4 cf0 cf1 hf0 hf1 cg0 cg1 cg2 cg3 cg4 cg5
    have cf0 : w4.cell? ⟨w.heap.size + 1, 0, none⟩ = some (.int .i64 0) := HF4.out.cell 0
    have cf1 : w4.cell? ⟨w.heap.size + 1, 1, none⟩ = some (.int .i64 0) := HF4.out.cell 1
    have hf0 := HF4.out.frozen 0
    have hf1 := HF4.out.frozen 1
    go_wp2_with fail
    ((try simp only [Exit.inBlock, Exit.then]); refine bodyPost_ret (results_row2 rfl _ _ _ 27 _ (0, 0) _ rfl ((HF4.out.set_ 0 (.int .i64 lo)).set_ 1 (.int .i64 hi)) Try.underlying27 rfl (by kernel_rfl)) rfl ?_)
    exact ⟨ret_val (by rw [HE.out]; simp [rngE, flR]), (HB4.out.setCell (p := ⟨w.heap.size + 1, 0, none⟩) (by simp) _).setCell (p := ⟨w.heap.size + 1, 1, none⟩) (by simp) _⟩
  · have hr0' : (r == 0) = false := by rw [beq_eq_false_iff_ne]; exact hr0
    have HE : Hid (flE r s = r) := Lib.hid (by simp [flE, hr0])
    have HN : Hid (r ≠ 0) := Lib.hid hr0
    clear HZ
    go_wp2_with fail
    ((try simp only [Exit.inBlock, Exit.then]); refine bodyPost_ret (results_row2 rfl _ _ _ 27 _ (0, 0) _ rfl ((HF3.out.set_ 0 (.int .i64 0)).set_ 1 (.int .i64 0)) Try.underlying27 rfl (by kernel_rfl)) rfl ?_)
    exact ⟨ret_val (by rw [HE.out]; simp [rngE, flR, HN.out]), (HB3.out.setCell (p := ⟨w.heap.size + 1, 0, none⟩) (by simp) _).setCell (p := ⟨w.heap.size + 1, 1, none⟩) (by simp) _⟩

end Go.Proofs.Ytfddlodfmmnanaa
