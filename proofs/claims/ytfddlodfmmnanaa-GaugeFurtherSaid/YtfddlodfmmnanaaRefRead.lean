/- Contracts of the reference's Error and Read. No condition. -/
import Derived.Test.YtfddlodfmmnanaaFlows
namespace Go.Proofs.Ytfddlodfmmnanaa
open Go.RowKit

set_option maxRecDepth 100000 in
set_option maxHeartbeats 2000000 in
theorem ref_err_24 (no rc cl dr si : Int) (A : Option Addr) (n c : Nat) (h : Int) (w : World) (h1 : 0 ≤ cl ∧ cl ≤ 1000) (h2 : 0 ≤ dr ∧ dr ≤ 1000) (h3 : 0 ≤ si) (h3' : si ≤ 4096) (h4 : h ≤ 4096) (h5 : 0 ≤ h) :
    Calls Try.prog 24 #[gv no rc cl dr si A n c, .int .i64 h] w fun e w' => e = .returned (.int .i64 (errN cl dr si h)) ∧ Below w.heap.size w w' := by
  obtain ⟨b0, b1, b2, b3⟩ := errN_range h1 h2 h3 h4
  have hw : IntKind.i64.wrap (dr * (max 0 (h - si) / 24)) = dr * (max 0 (h - si) / 24) := IntWalk.i64_in _ ⟨by omega, by omega⟩
  obtain ⟨r, hr⟩ : ∃ r, r = errN cl dr si h := ⟨_, rfl⟩
  have HRR := Lib.hid (hr.trans rfl : r = cl + dr * (max 0 (h - si) / 24))
  rw [← hr]
  clear hr b0 b1
  unfold gv
  go_enter Try.func24, Try.ntmps24
  go_wp2_with fail
  go_ret
  exact ⟨ret_int HRR.out.symm, below_alloc _ _⟩
/-- the error of Read -/
def rdE (r s h : Int) : Int := if r = 0 then if (inB 1048576 s && inB 4096 h) = true then 0 else 1 else r

set_option maxRecDepth 100000 in
set_option maxHeartbeats 2000000 in
theorem ref_Read_16 (no rc cl dr si : Int) (A : Option Addr) (n c B : Nat) (S F : Nat → Int) (s h : Int) (w : World) (hm : n ≤ 9223372036854775807) (hB : B ≤ w.heap.size) (hr : n ≤ 64 → RdP w B A n S F) :
    Calls Try.prog 16 #[gv no rc cl dr si A n c, .int .i64 s, .int .i64 h] w fun e w' => e = .returned (rngE (rdE (chk no rc cl dr si n S F) s h) (fLo S F n (max 0 (s - errN cl dr si h))) (fHi S F n (min 1048576 (s + errN cl dr si h)))) ∧ Below w.heap.size w w' := by
  have HC : Hid (∀ W, (n ≤ 64 → RdP W B A n S F) → B ≤ W.heap.size → Calls Try.prog 14 #[gv no rc cl dr si A n c] W fun e w' => e = .returned (.int .i64 (chk no rc cl dr si n S F)) ∧ Below W.heap.size W w') :=
    Lib.hid fun W h1 h2 => ref_check_14 no rc cl dr si A n c B S F W hm h2 h1
  have HZ : Hid (chk no rc cl dr si n S F = 0 → (n ≤ 64 ∧ n ≠ 0 ∧ rowsB S F n = true) ∧ (0 ≤ cl ∧ cl ≤ 1000) ∧ (0 ≤ dr ∧ dr ≤ 1000) ∧ 0 ≤ si ∧ si ≤ 4096) := Lib.hid fun h =>
    ⟨⟨(chk_zero h).1, (chk_zero h).2.1, (chk_zero h).2.2.2⟩, (head_in (chk_zero h).2.2.1).2.2⟩
  have HR := Lib.hid hr
  clear hr
  obtain ⟨er, her⟩ : ∃ er, er = errN cl dr si h := ⟨_, rfl⟩
  rw [← her]
  have HER : Hid (∀ W, 0 ≤ cl ∧ cl ≤ 1000 → 0 ≤ dr ∧ dr ≤ 1000 → 0 ≤ si → si ≤ 4096 → h ≤ 4096 → 0 ≤ h → Calls Try.prog 24 #[gv no rc cl dr si A n c, .int .i64 h] W fun e w' => e = .returned (.int .i64 er) ∧ Below W.heap.size W w') :=
    Lib.hid fun W h1 h2 h3 h4 h5 h6 => by rw [her]; exact ref_err_24 no rc cl dr si A n c h W h1 h2 h3 h4 h5 h6
  have HEI : Hid (0 ≤ cl ∧ cl ≤ 1000 → 0 ≤ dr ∧ dr ≤ 1000 → 0 ≤ si → h ≤ 4096 → 0 ≤ er ∧ er ≤ 172000) := Lib.hid fun h1 h2 h3 h4 => by rw [her]; have := errN_range h1 h2 h3 h4; omega
  clear her
  have HFL : Hid (∀ W s, n ≠ 0 → n ≤ 64 → rowsB S F n = true → RdP W B A n S F → B ≤ W.heap.size → Calls Try.prog 22 #[gv no rc cl dr si A n c, .int .i64 s] W fun e w' => e = .returned (.agg #[.int .i64 (fLo S F n s), .int .i64 (fHi S F n s)]) ∧ Below W.heap.size W w') :=
    Lib.hid fun W s h1 h2 h3 h4 h5 => ref_flow_22 no rc cl dr si A n c B S F s W h1 h2 h5 h4 h3
  generalize chk no rc cl dr si n S F = r at HC HZ ⊢
  unfold gv at HC HFL HER ⊢
  go_enter Try.func16, Try.ntmps16
  go_wp2_with fail
  obtain ⟨w2, hw2⟩ : ∃ w2, w2 = (w.alloc (.cells #[.int .i64 no, .int .i64 rc, .int .i64 cl, .int .i64 dr, .int .i64 si, .slice A n c] 24)).alloc (.cells #[.int .i64 0, .int .i64 0] 27) := ⟨_, rfl⟩
  have HG2 : Hid (Blk w2 w.heap.size 24 #[.int .i64 no, .int .i64 rc, .int .i64 cl, .int .i64 dr, .int .i64 si, .slice A n c]) := Lib.hid (hw2 ▸ (Blk.new _ _ _).alloc _)
  have HF2 : Hid (Blk w2 (w.heap.size + 1) 27 #[.int .i64 0, .int .i64 0]) := Lib.hid (by have := Blk.new (w.alloc (.cells #[.int .i64 no, .int .i64 rc, .int .i64 cl, .int .i64 dr, .int .i64 si, .slice A n c] 24)) 27 #[.int .i64 0, .int .i64 0]; rw [World.size_alloc] at this; rw [hw2]; exact this)
  have HB2 : Hid (Below w.heap.size w w2) := Lib.hid (by rw [hw2]; (repeat (first | exact Below.refl _ _ | exact below_alloc _ _ | refine Below.alloc ?_ (by simp; omega) _ | refine Below.alloc ?_ (by simp) _)))
  rw [← hw2]
  clear hw2
  have hs2 := HF2.out.lt
  refine (HC.out _ (fun h => (HR.out h).below (HB2.out.mono hB)) (by omega)).mono ?_
  rintro e w3 ⟨rfl, hb3⟩
  have HB3 := Lib.hid (HB2.out.trans (hb3.mono (by omega)))
  have HG3 := Lib.hid (HG2.out.below hb3 (by omega))
  have HF3 := Lib.hid (HF2.out.below hb3 (by omega))
  clear hb3 HB2 HG2 HF2 HC
  have hs3 := HF3.out.lt
  have cf0 : w3.cell? ⟨(w.heap.size+1), 0, none⟩ = some (.int .i64 0) := HF3.out.cell 0
  have cf1 : w3.cell? ⟨(w.heap.size+1), 1, none⟩ = some (.int .i64 0) := HF3.out.cell 1
  have hf0 := HF3.out.frozen 0
  have hf1 := HF3.out.frozen 1
  have cg0 : w3.cell? ⟨w.heap.size, 0, none⟩ = some (.int .i64 no) := HG3.out.cell 0
  have cg1 : w3.cell? ⟨w.heap.size, 1, none⟩ = some (.int .i64 rc) := HG3.out.cell 1
  have cg2 : w3.cell? ⟨w.heap.size, 2, none⟩ = some (.int .i64 cl) := HG3.out.cell 2
  have cg3 : w3.cell? ⟨w.heap.size, 3, none⟩ = some (.int .i64 dr) := HG3.out.cell 3
  have cg4 : w3.cell? ⟨w.heap.size, 4, none⟩ = some (.int .i64 si) := HG3.out.cell 4
  have cg5 : w3.cell? ⟨w.heap.size, 5, none⟩ = some (.slice A n c) := HG3.out.cell 5
  have hgw3 : w.heap.size < w3.heap.size := by omega
  by_cases hr0 : r = 0
  · obtain ⟨⟨hz1, hz2, hz3⟩, hz4, hz5, hz6, hz7⟩ := HZ.out hr0
    have HROW := Lib.hid hz3
    clear HZ hz3
    subst hr0
    go_wp2_with fail
    refine (refw _ _ _).mono ?_
    rintro e wa ⟨rfl, rfl⟩
    cases h1 : inB 1048576 s
    · have HE : Hid (rdE 0 s h = 1) := Lib.hid (by simp [rdE, h1])
      clear h1
      go_wp2_with fail
      ((try simp only [Exit.inBlock, Exit.then]); refine bodyPost_ret (results_row2 rfl _ _ _ 27 _ (0, 0) _ rfl ((HF3.out.set_ 0 (.int .i64 0)).set_ 1 (.int .i64 0)) Try.underlying27 rfl (by kernel_rfl)) rfl ?_)
      exact ⟨ret_val (by rw [HE.out]; simp [rngE, flR]), (HB3.out.setCell (p := ⟨w.heap.size + 1, 0, none⟩) (by simp) _).setCell (p := ⟨w.heap.size + 1, 1, none⟩) (by simp) _⟩
    have hs := inB_iff.1 h1
    have H1 := Lib.hid h1
    clear h1
    go_wp2_with fail
    refine (refw _ _ _).mono ?_
    rintro e wa ⟨rfl, rfl⟩
    cases h2 : inB 4096 h
    · have HE : Hid (rdE 0 s h = 1) := Lib.hid (by simp [rdE, h2])
      clear h2
      go_wp2_with fail
      ((try simp only [Exit.inBlock, Exit.then]); refine bodyPost_ret (results_row2 rfl _ _ _ 27 _ (0, 0) _ rfl ((HF3.out.set_ 0 (.int .i64 0)).set_ 1 (.int .i64 0)) Try.underlying27 rfl (by kernel_rfl)) rfl ?_)
      exact ⟨ret_val (by rw [HE.out]; simp [rngE, flR]), (HB3.out.setCell (p := ⟨w.heap.size + 1, 0, none⟩) (by simp) _).setCell (p := ⟨w.heap.size + 1, 1, none⟩) (by simp) _⟩
    have hh := inB_iff.1 h2
    have HE : Hid (rdE 0 s h = 0) := Lib.hid (by simp [rdE, H1.out, h2])
    clear h2
    obtain ⟨he0, he1⟩ := HEI.out hz4 hz5 hz6 hh.2
    obtain ⟨hs0, hs1⟩ := hs
    go_wp2_with fail
    refine (HER.out _ hz4 hz5 hz6 hz7 hh.2 hh.1).mono ?_
    rintro e wa ⟨rfl, hba⟩
    have HBa := Lib.hid (HB3.out.trans (hba.mono (by omega)))
    have HGa := Lib.hid (HG3.out.below hba (by omega))
    have HFa := Lib.hid (HF3.out.below hba (by omega))
    clear hba cf0 cf1 hf0 hf1 cg0 cg1 cg2 cg3 cg4 cg5
    have hsa := HFa.out.lt
    have cf0 : wa.cell? ⟨w.heap.size+1, 0, none⟩ = some (.int .i64 0) := HFa.out.cell 0
    have cf1 : wa.cell? ⟨w.heap.size+1, 1, none⟩ = some (.int .i64 0) := HFa.out.cell 1
    have hf0 := HFa.out.frozen 0
    have hf1 := HFa.out.frozen 1
    have cg0 : wa.cell? ⟨w.heap.size, 0, none⟩ = some (.int .i64 no) := HGa.out.cell 0
    have cg1 : wa.cell? ⟨w.heap.size, 1, none⟩ = some (.int .i64 rc) := HGa.out.cell 1
    have cg2 : wa.cell? ⟨w.heap.size, 2, none⟩ = some (.int .i64 cl) := HGa.out.cell 2
    have cg3 : wa.cell? ⟨w.heap.size, 3, none⟩ = some (.int .i64 dr) := HGa.out.cell 3
    have cg4 : wa.cell? ⟨w.heap.size, 4, none⟩ = some (.int .i64 si) := HGa.out.cell 4
    have cg5 : wa.cell? ⟨w.heap.size, 5, none⟩ = some (.slice A n c) := HGa.out.cell 5
    have hgwa : w.heap.size < wa.heap.size := by omega
    clear HER HEI
    go_wp2_with fail
    refine (HFL.out _ _ hz2 hz1 HROW.out ((HR.out hz1).below (HBa.out.mono hB)) (by omega)).mono ?_
    rintro e w4 ⟨rfl, hb4⟩
    have HB4 := Lib.hid (HBa.out.trans (hb4.mono (by omega)))
    have HG4 := Lib.hid (HGa.out.below hb4 (by omega))
    have HF4 := Lib.hid (HFa.out.below hb4 (by omega))
    clear hb4 cf0 cf1 hf0 hf1 cg0 cg1 cg2 cg3 cg4 cg5
    have hs4 := HF4.out.lt
    have cf0 : w4.cell? ⟨w.heap.size+1, 0, none⟩ = some (.int .i64 0) := HF4.out.cell 0
    have cf1 : w4.cell? ⟨w.heap.size+1, 1, none⟩ = some (.int .i64 0) := HF4.out.cell 1
    have hf0 := HF4.out.frozen 0
    have hf1 := HF4.out.frozen 1
    have cg0 : w4.cell? ⟨w.heap.size, 0, none⟩ = some (.int .i64 no) := HG4.out.cell 0
    have cg1 : w4.cell? ⟨w.heap.size, 1, none⟩ = some (.int .i64 rc) := HG4.out.cell 1
    have cg2 : w4.cell? ⟨w.heap.size, 2, none⟩ = some (.int .i64 cl) := HG4.out.cell 2
    have cg3 : w4.cell? ⟨w.heap.size, 3, none⟩ = some (.int .i64 dr) := HG4.out.cell 3
    have cg4 : w4.cell? ⟨w.heap.size, 4, none⟩ = some (.int .i64 si) := HG4.out.cell 4
    have cg5 : w4.cell? ⟨w.heap.size, 5, none⟩ = some (.slice A n c) := HG4.out.cell 5
    have hgw4 : w.heap.size < w4.heap.size := by omega
    go_upto_region 8 with fail
    obtain ⟨w5, hw5⟩ : ∃ w5, w5 = w4.alloc (.cells #[.int .i64 (fLo S F n (max 0 (s - er))), .int .i64 (fHi S F n (max 0 (s - er)))] 27) := ⟨_, rfl⟩
    have HL5 : Hid (Blk w5 w4.heap.size 27 #[.int .i64 (fLo S F n (max 0 (s - er))), .int .i64 (fHi S F n (max 0 (s - er)))]) := Lib.hid (hw5 ▸ Blk.new _ _ _)
    have hb5 : Below w4.heap.size w4 w5 := hw5 ▸ below_alloc _ _
    rw [← hw5]
    clear hw5
    have hs45 := HL5.out.lt
    have HB5 := Lib.hid (HB4.out.trans (hb5.mono (by omega)))
    have HG5 := Lib.hid (HG4.out.below hb5 (by omega))
    have HF5 := Lib.hid (HF4.out.below hb5 (by omega))
    clear hb5 cf0 cf1 hf0 hf1 cg0 cg1 cg2 cg3 cg4 cg5
    have hs5 := HF5.out.lt
    have cf0 : w5.cell? ⟨w.heap.size+1, 0, none⟩ = some (.int .i64 0) := HF5.out.cell 0
    have cf1 : w5.cell? ⟨w.heap.size+1, 1, none⟩ = some (.int .i64 0) := HF5.out.cell 1
    have hf0 := HF5.out.frozen 0
    have hf1 := HF5.out.frozen 1
    have cg0 : w5.cell? ⟨w.heap.size, 0, none⟩ = some (.int .i64 no) := HG5.out.cell 0
    have cg1 : w5.cell? ⟨w.heap.size, 1, none⟩ = some (.int .i64 rc) := HG5.out.cell 1
    have cg2 : w5.cell? ⟨w.heap.size, 2, none⟩ = some (.int .i64 cl) := HG5.out.cell 2
    have cg3 : w5.cell? ⟨w.heap.size, 3, none⟩ = some (.int .i64 dr) := HG5.out.cell 3
    have cg4 : w5.cell? ⟨w.heap.size, 4, none⟩ = some (.int .i64 si) := HG5.out.cell 4
    have cg5 : w5.cell? ⟨w.heap.size, 5, none⟩ = some (.slice A n c) := HG5.out.cell 5
    have hgw5 : w.heap.size < w5.heap.size := by omega
    go_wp2_with fail
    refine (HFL.out _ _ hz2 hz1 HROW.out ((HR.out hz1).below (HB5.out.mono hB)) (by omega)).mono ?_
    rintro e w6 ⟨rfl, hb6⟩
    have HL6 := Lib.hid (HL5.out.below hb6 (by omega))
    have HB6 := Lib.hid (HB5.out.trans (hb6.mono (by omega)))
    have HG6 := Lib.hid (HG5.out.below hb6 (by omega))
    have HF6 := Lib.hid (HF5.out.below hb6 (by omega))
    clear hb6 cf0 cf1 hf0 hf1 cg0 cg1 cg2 cg3 cg4 cg5
    have hs6 := HF6.out.lt
    have cf0 : w6.cell? ⟨w.heap.size+1, 0, none⟩ = some (.int .i64 0) := HF6.out.cell 0
    have cf1 : w6.cell? ⟨w.heap.size+1, 1, none⟩ = some (.int .i64 0) := HF6.out.cell 1
    have hf0 := HF6.out.frozen 0
    have hf1 := HF6.out.frozen 1
    have cg0 : w6.cell? ⟨w.heap.size, 0, none⟩ = some (.int .i64 no) := HG6.out.cell 0
    have cg1 : w6.cell? ⟨w.heap.size, 1, none⟩ = some (.int .i64 rc) := HG6.out.cell 1
    have cg2 : w6.cell? ⟨w.heap.size, 2, none⟩ = some (.int .i64 cl) := HG6.out.cell 2
    have cg3 : w6.cell? ⟨w.heap.size, 3, none⟩ = some (.int .i64 dr) := HG6.out.cell 3
    have cg4 : w6.cell? ⟨w.heap.size, 4, none⟩ = some (.int .i64 si) := HG6.out.cell 4
    have cg5 : w6.cell? ⟨w.heap.size, 5, none⟩ = some (.slice A n c) := HG6.out.cell 5
    have hgw6 : w.heap.size < w6.heap.size := by omega
    have cl0 : w6.cell? ⟨w4.heap.size, 0, none⟩ = some (.int .i64 (fLo S F n (max 0 (s - er)))) := HL6.out.cell 0
    have hlw6 := HL6.out.lt
    go_wp2_with fail
    ((try simp only [Exit.inBlock, Exit.then]); refine bodyPost_ret (results_row2 rfl _ _ _ 27 _ (0, 0) _ rfl (((HF6.out.set_ 0 (.int .i64 (fLo S F n (max 0 (s - er))))).set_ 1 (.int .i64 (fHi S F n (min 1048576 (s + er))))).alloc _) Try.underlying27 rfl (by kernel_rfl)) rfl ?_)
    exact ⟨ret_val (by rw [HE.out]; simp [rngE, flR]), ((HB6.out.setCell (p := ⟨w.heap.size + 1, 0, none⟩) (by simp) _).setCell (p := ⟨w.heap.size + 1, 1, none⟩) (by simp) _).alloc (by simp; omega) _⟩
  · have hr0' : (r == 0) = false := by rw [beq_eq_false_iff_ne]; exact hr0
    have HE : Hid (rdE r s h = r) := Lib.hid (by simp [rdE, hr0])
    have HN : Hid (r ≠ 0) := Lib.hid hr0
    clear HZ
    go_wp2_with fail
    ((try simp only [Exit.inBlock, Exit.then]); refine bodyPost_ret (results_row2 rfl _ _ _ 27 _ (0, 0) _ rfl ((HF3.out.set_ 0 (.int .i64 0)).set_ 1 (.int .i64 0)) Try.underlying27 rfl (by kernel_rfl)) rfl ?_)
    exact ⟨ret_val (by rw [HE.out]; simp [rngE, flR, HN.out]), (HB3.out.setCell (p := ⟨w.heap.size + 1, 0, none⟩) (by simp) _).setCell (p := ⟨w.heap.size + 1, 1, none⟩) (by simp) _⟩
end Go.Proofs.Ytfddlodfmmnanaa
