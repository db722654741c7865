/- Contracts of the reference's first and Stage. No condition. -/
import Derived.Test.YtfddlodfmmnanaaStage
namespace Go.Proofs.Ytfddlodfmmnanaa
open Go.RowKit

set_option maxRecDepth 100000 in
set_option maxHeartbeats 2000000 in
theorem first_end (no rc cl dr si q : Int) (A : Option Addr) (n c B : Nat) (S F : Nat → Int) (w : World) (hn : n ≠ 0) (hm : n ≤ 64) (hB : B ≤ w.heap.size) (hr : RdP w B A n S F) (hrow : rowsB S F n = true) :
    Calls Try.prog 28 #[gv no rc cl dr si A n c, .int .i64 q, .bool false] w fun e w' => e = .returned (.int .i64 (stLo S F n q)) ∧ Below w.heap.size w w' := by
  have HFL : Hid (∀ W s, RdP W B A n S F → B ≤ W.heap.size → Calls Try.prog 22 #[gv no rc cl dr si A n c, .int .i64 s] W fun e w' => e = .returned (.agg #[.int .i64 (fLo S F n s), .int .i64 (fHi S F n s)]) ∧ Below W.heap.size W w') :=
    Lib.hid fun W s h4 h5 => ref_flow_22 no rc cl dr si A n c B S F s W hn hm h5 h4 hrow
  have HR := Lib.hid hr
  have HT : Hid (∀ i : Nat, i < 1048577 → decide (q ≤ fHi S F n i) = decide (stLo S F n q ≤ i)) := Lib.hid fun i hi => stLo_test hrow hn q hi
  have hk : stLo S F n q ≤ 1048577 := stLo_le S F n q
  clear hr hrow
  generalize stLo S F n q = k at HT hk ⊢
  unfold gv at HFL ⊢
  go_enter Try.func28, Try.ntmps28
  go_wp2_with fail
  obtain ⟨w0, hw0⟩ : ∃ w0, w0 = w.alloc (.cells #[.int .i64 no, .int .i64 rc, .int .i64 cl, .int .i64 dr, .int .i64 si, .slice A n c] 24) := ⟨_, rfl⟩
  have HG0 : Hid (Blk w0 w.heap.size 24 #[.int .i64 no, .int .i64 rc, .int .i64 cl, .int .i64 dr, .int .i64 si, .slice A n c]) := Lib.hid (hw0 ▸ Blk.new _ _ _)
  have HB0 : Hid (Below w.heap.size w w0) := Lib.hid (hw0 ▸ below_alloc _ _)
  rw [← hw0]
  clear hw0
  have hs0 := HG0.out.lt
  go_loopw [7, 8] (fun s5 s6 wr => ∃ (lo hi : Nat), s5 = .int .i64 lo ∧ s6 = .int .i64 hi ∧ lo ≤ k ∧ k ≤ hi ∧ hi ≤ 1048577 ∧ Below w0.heap.size w0 wr) (fun s5 s6 _ => (intOf s6).toNat - (intOf s5).toNat)
  case atStart => exact ⟨0, 1048577, rfl, rfl, Nat.zero_le _, hk, Nat.le_refl _, Below.refl _ _⟩
  case round =>
    obtain ⟨lo, hi, rfl, rfl, hlo, hhi, hin, hb⟩ := hrel
    have HB := Lib.hid hb
    have HBw := Lib.hid (HB0.out.trans (hb.mono (by omega)))
    have HGr := Lib.hid (HG0.out.below hb hs0)
    have hsr := hb.size
    clear hb
    have cg0 : wr.cell? ⟨w.heap.size, 0, none⟩ = some (.int .i64 no) := HGr.out.cell 0
    have cg1 : wr.cell? ⟨w.heap.size, 1, none⟩ = some (.int .i64 rc) := HGr.out.cell 1
    have cg2 : wr.cell? ⟨w.heap.size, 2, none⟩ = some (.int .i64 cl) := HGr.out.cell 2
    have cg3 : wr.cell? ⟨w.heap.size, 3, none⟩ = some (.int .i64 dr) := HGr.out.cell 3
    have cg4 : wr.cell? ⟨w.heap.size, 4, none⟩ = some (.int .i64 si) := HGr.out.cell 4
    have cg5 : wr.cell? ⟨w.heap.size, 5, none⟩ = some (.slice A n c) := HGr.out.cell 5
    by_cases hlt : lo < hi
    · have hsum : IntKind.i64.wrap ((lo : Int) + hi) = (lo : Int) + hi := IntWalk.i64_in _ ⟨by omega, by omega⟩
      go_wp2_with fail
      refine (HFL.out _ _ (HR.out.below (HBw.out.mono hB)) (by omega)).mono ?_
      rintro e w4 ⟨rfl, hb4⟩
      rw [show ((lo : Int) + (hi : Int)) / 2 = (((lo + hi) / 2 : Nat) : Int) by omega]
      have ht := HT.out ((lo + hi) / 2) (by omega)
      have HB4 := Lib.hid (HB.out.trans (hb4.mono (by omega)))
      have hs4 := hb4.size
      clear hb4 hsum
      by_cases hp : k ≤ (lo + hi) / 2
      · have HP := Lib.hid (ht.trans (by simpa using hp) : _ = true)
        clear ht
        have ht : q ≤ fHi S F n (((lo + hi) / 2 : Nat) : Int) := by simpa using HP.out
        generalize fLo S F n (((lo + hi) / 2 : Nat) : Int) = xlo at ht ⊢
        generalize fHi S F n (((lo + hi) / 2 : Nat) : Int) = xhi at ht ⊢
        go_wp2_with fail
        go_roundw
        case rel => exact ⟨lo, (lo + hi) / 2, rfl, rfl, hlo, hp, by omega, HB4.out.alloc (by omega) _⟩
        case measure => simp [intOf]; omega
      · have HP := Lib.hid (ht.trans (by simpa using hp) : _ = false)
        clear ht
        have ht : fHi S F n (((lo + hi) / 2 : Nat) : Int) < q := by simpa using HP.out
        generalize fLo S F n (((lo + hi) / 2 : Nat) : Int) = xlo at ht ⊢
        generalize fHi S F n (((lo + hi) / 2 : Nat) : Int) = xhi at ht ⊢
        go_wp2_with fail
        go_roundw
        case rel => exact ⟨(lo + hi) / 2 + 1, hi, rfl, rfl, by omega, hhi, hin, HB4.out.alloc (by omega) _⟩
        case measure => simp [intOf]; omega
    · obtain rfl : lo = k := by omega
      go_wp2_with fail
      go_ret
      exact ⟨rfl, HBw.out⟩

set_option maxRecDepth 100000 in
set_option maxHeartbeats 2000000 in
theorem first_begin (no rc cl dr si q : Int) (A : Option Addr) (n c B : Nat) (S F : Nat → Int) (w : World) (hn : n ≠ 0) (hm : n ≤ 64) (hB : B ≤ w.heap.size) (hr : RdP w B A n S F) (hrow : rowsB S F n = true) :
    Calls Try.prog 28 #[gv no rc cl dr si A n c, .int .i64 q, .bool true] w fun e w' => e = .returned (.int .i64 (stHi S F n q)) ∧ Below w.heap.size w w' := by
  have HFL : Hid (∀ W s, RdP W B A n S F → B ≤ W.heap.size → Calls Try.prog 22 #[gv no rc cl dr si A n c, .int .i64 s] W fun e w' => e = .returned (.agg #[.int .i64 (fLo S F n s), .int .i64 (fHi S F n s)]) ∧ Below W.heap.size W w') :=
    Lib.hid fun W s h4 h5 => ref_flow_22 no rc cl dr si A n c B S F s W hn hm h5 h4 hrow
  have HR := Lib.hid hr
  have HT : Hid (∀ i : Nat, i < 1048577 → decide (q < fLo S F n i) = decide (stHi S F n q ≤ i)) := Lib.hid fun i hi => stHi_test hrow hn q hi
  have hk : stHi S F n q ≤ 1048577 := stHi_le S F n q
  clear hr hrow
  generalize stHi S F n q = k at HT hk ⊢
  unfold gv at HFL ⊢
  go_enter Try.func28, Try.ntmps28
  go_wp2_with fail
  obtain ⟨w0, hw0⟩ : ∃ w0, w0 = w.alloc (.cells #[.int .i64 no, .int .i64 rc, .int .i64 cl, .int .i64 dr, .int .i64 si, .slice A n c] 24) := ⟨_, rfl⟩
  have HG0 : Hid (Blk w0 w.heap.size 24 #[.int .i64 no, .int .i64 rc, .int .i64 cl, .int .i64 dr, .int .i64 si, .slice A n c]) := Lib.hid (hw0 ▸ Blk.new _ _ _)
  have HB0 : Hid (Below w.heap.size w w0) := Lib.hid (hw0 ▸ below_alloc _ _)
  rw [← hw0]
  clear hw0
  have hs0 := HG0.out.lt
  go_loopw [7, 8] (fun s5 s6 wr => ∃ (lo hi : Nat), s5 = .int .i64 lo ∧ s6 = .int .i64 hi ∧ lo ≤ k ∧ k ≤ hi ∧ hi ≤ 1048577 ∧ Below w0.heap.size w0 wr) (fun s5 s6 _ => (intOf s6).toNat - (intOf s5).toNat)
  case atStart => exact ⟨0, 1048577, rfl, rfl, Nat.zero_le _, hk, Nat.le_refl _, Below.refl _ _⟩
  case round =>
    obtain ⟨lo, hi, rfl, rfl, hlo, hhi, hin, hb⟩ := hrel
    have HB := Lib.hid hb
    have HBw := Lib.hid (HB0.out.trans (hb.mono (by omega)))
    have HGr := Lib.hid (HG0.out.below hb hs0)
    have hsr := hb.size
    clear hb
    have cg0 : wr.cell? ⟨w.heap.size, 0, none⟩ = some (.int .i64 no) := HGr.out.cell 0
    have cg1 : wr.cell? ⟨w.heap.size, 1, none⟩ = some (.int .i64 rc) := HGr.out.cell 1
    have cg2 : wr.cell? ⟨w.heap.size, 2, none⟩ = some (.int .i64 cl) := HGr.out.cell 2
    have cg3 : wr.cell? ⟨w.heap.size, 3, none⟩ = some (.int .i64 dr) := HGr.out.cell 3
    have cg4 : wr.cell? ⟨w.heap.size, 4, none⟩ = some (.int .i64 si) := HGr.out.cell 4
    have cg5 : wr.cell? ⟨w.heap.size, 5, none⟩ = some (.slice A n c) := HGr.out.cell 5
    by_cases hlt : lo < hi
    · have hsum : IntKind.i64.wrap ((lo : Int) + hi) = (lo : Int) + hi := IntWalk.i64_in _ ⟨by omega, by omega⟩
      go_wp2_with fail
      refine (HFL.out _ _ (HR.out.below (HBw.out.mono hB)) (by omega)).mono ?_
      rintro e w4 ⟨rfl, hb4⟩
      rw [show ((lo : Int) + (hi : Int)) / 2 = (((lo + hi) / 2 : Nat) : Int) by omega]
      have ht := HT.out ((lo + hi) / 2) (by omega)
      have HB4 := Lib.hid (HB.out.trans (hb4.mono (by omega)))
      have hs4 := hb4.size
      clear hb4 hsum
      by_cases hp : k ≤ (lo + hi) / 2
      · have HP := Lib.hid (ht.trans (by simpa using hp) : _ = true)
        clear ht
        have ht : q < fLo S F n (((lo + hi) / 2 : Nat) : Int) := by simpa using HP.out
        generalize fLo S F n (((lo + hi) / 2 : Nat) : Int) = xlo at ht ⊢
        generalize fHi S F n (((lo + hi) / 2 : Nat) : Int) = xhi at ht ⊢
        go_wp2_with fail
        go_roundw
        case rel => exact ⟨lo, (lo + hi) / 2, rfl, rfl, hlo, hp, by omega, HB4.out.alloc (by omega) _⟩
        case measure => simp [intOf]; omega
      · have HP := Lib.hid (ht.trans (by simpa using hp) : _ = false)
        clear ht
        have ht : fLo S F n (((lo + hi) / 2 : Nat) : Int) ≤ q := by simpa using HP.out
        generalize fLo S F n (((lo + hi) / 2 : Nat) : Int) = xlo at ht ⊢
        generalize fHi S F n (((lo + hi) / 2 : Nat) : Int) = xhi at ht ⊢
        go_wp2_with fail
        go_roundw
        case rel => exact ⟨(lo + hi) / 2 + 1, hi, rfl, rfl, by omega, hhi, hin, HB4.out.alloc (by omega) _⟩
        case measure => simp [intOf]; omega
    · obtain rfl : lo = k := by omega
      go_wp2_with fail
      go_ret
      exact ⟨rfl, HBw.out⟩

--STAGE18
set_option maxRecDepth 100000 in
set_option maxHeartbeats 4000000 in
theorem ref_Stage_18 (no rc cl dr si : Int) (A : Option Addr) (n c B : Nat) (S F : Nat → Int) (q : Int) (w : World) (hm : n ≤ 9223372036854775807) (hB : B ≤ w.heap.size) (hr : n ≤ 64 → RdP w B A n S F) :
    Calls Try.prog 18 #[gv no rc cl dr si A n c, .int .i64 q] w fun e w' => e = .returned (rngO (stE (chk no rc cl dr si n S F) q) (stLo S F n q) (stHi S F n q)) ∧ Below w.heap.size w w' := by
  have HC : Hid (∀ W, (n ≤ 64 → RdP W B A n S F) → B ≤ W.heap.size → Calls Try.prog 14 #[gv no rc cl dr si A n c] W fun e w' => e = .returned (.int .i64 (chk no rc cl dr si n S F)) ∧ Below W.heap.size W w') :=
    Lib.hid fun W h1 h2 => ref_check_14 no rc cl dr si A n c B S F W hm h2 h1
  have HZ : Hid (chk no rc cl dr si n S F = 0 → n ≤ 64 ∧ n ≠ 0 ∧ rowsB S F n = true) := Lib.hid fun h => ⟨(chk_zero h).1, (chk_zero h).2.1, (chk_zero h).2.2.2⟩
  have HR := Lib.hid hr
  clear hr
  obtain ⟨lo, hlo⟩ : ∃ lo, lo = stLo S F n q := ⟨_, rfl⟩
  obtain ⟨hi, hhi⟩ : ∃ hi, hi = stHi S F n q := ⟨_, rfl⟩
  have hlo1 : lo ≤ 1048577 := hlo ▸ stLo_le S F n q
  have hhi1 : hi ≤ 1048577 := hhi ▸ stHi_le S F n q
  have HSL : Hid (∀ (W : World), n ≠ 0 → n ≤ 64 → rowsB S F n = true → RdP W B A n S F → B ≤ W.heap.size → Calls Try.prog 28 #[gv no rc cl dr si A n c, .int .i64 q, .bool false] W fun e w' => e = .returned (.int .i64 lo) ∧ Below W.heap.size W w') :=
    Lib.hid fun W h1 h2 h3 h4 h5 => hlo ▸ first_end no rc cl dr si q A n c B S F W h1 h2 h5 h4 h3
  have HSH : Hid (∀ (W : World), n ≠ 0 → n ≤ 64 → rowsB S F n = true → RdP W B A n S F → B ≤ W.heap.size → Calls Try.prog 28 #[gv no rc cl dr si A n c, .int .i64 q, .bool true] W fun e w' => e = .returned (.int .i64 hi) ∧ Below W.heap.size W w') :=
    Lib.hid fun W h1 h2 h3 h4 h5 => hhi ▸ first_begin no rc cl dr si q A n c B S F W h1 h2 h5 h4 h3
  rw [← hlo, ← hhi]
  clear hlo hhi
  generalize chk no rc cl dr si n S F = r at HC HZ ⊢
  unfold gv at HC HSL HSH ⊢
  go_enter Try.func18, Try.ntmps18
  go_wp2_with fail
  obtain ⟨w2, hw2⟩ : ∃ w2, w2 = (w.alloc (.cells #[.int .i64 no, .int .i64 rc, .int .i64 cl, .int .i64 dr, .int .i64 si, .slice A n c] 24)).alloc (.cells #[.int .i64 0, .int .i64 0] 27) := ⟨_, rfl⟩
  have HG2 : Hid (Blk w2 w.heap.size 24 #[.int .i64 no, .int .i64 rc, .int .i64 cl, .int .i64 dr, .int .i64 si, .slice A n c]) := Lib.hid (hw2 ▸ (Blk.new _ _ _).alloc _)
  have HF2 : Hid (Blk w2 (w.heap.size + 1) 27 #[.int .i64 0, .int .i64 0]) := Lib.hid (by have := Blk.new (w.alloc (.cells #[.int .i64 no, .int .i64 rc, .int .i64 cl, .int .i64 dr, .int .i64 si, .slice A n c] 24)) 27 #[.int .i64 0, .int .i64 0]; rw [World.size_alloc] at this; rw [hw2]; exact this)
  have HB2 : Hid (Below w.heap.size w w2) := Lib.hid (by rw [hw2]; (repeat (first | exact Below.refl _ _ | exact below_alloc _ _ | refine Below.alloc ?_ (by simp; omega) _ | refine Below.alloc ?_ (by simp) _)))
  rw [← hw2]
  clear hw2
  have hs2 := HF2.out.lt
  refine (HC.out _ (fun h => (HR.out h).below (HB2.out.mono hB)) (by omega)).mono ?_
  rintro e w3 ⟨rfl, hb3⟩
  have HB3 := Lib.hid (HB2.out.trans (hb3.mono (by omega)))
  have HG3 := Lib.hid (HG2.out.below hb3 (by omega))
  have HF3 := Lib.hid (HF2.out.below hb3 (by omega))
  clear hb3 HB2 HG2 HF2 HC
  have hs3 := HF3.out.lt
  have cf0 : w3.cell? ⟨(w.heap.size+1), 0, none⟩ = some (.int .i64 0) := HF3.out.cell 0
  have cf1 : w3.cell? ⟨(w.heap.size+1), 1, none⟩ = some (.int .i64 0) := HF3.out.cell 1
  have hf0 := HF3.out.frozen 0
  have hf1 := HF3.out.frozen 1
  have cg0 : w3.cell? ⟨w.heap.size, 0, none⟩ = some (.int .i64 no) := HG3.out.cell 0
  have cg1 : w3.cell? ⟨w.heap.size, 1, none⟩ = some (.int .i64 rc) := HG3.out.cell 1
  have cg2 : w3.cell? ⟨w.heap.size, 2, none⟩ = some (.int .i64 cl) := HG3.out.cell 2
  have cg3 : w3.cell? ⟨w.heap.size, 3, none⟩ = some (.int .i64 dr) := HG3.out.cell 3
  have cg4 : w3.cell? ⟨w.heap.size, 4, none⟩ = some (.int .i64 si) := HG3.out.cell 4
  have cg5 : w3.cell? ⟨w.heap.size, 5, none⟩ = some (.slice A n c) := HG3.out.cell 5
  have hgw3 : w.heap.size < w3.heap.size := by omega
  by_cases hr0 : r = 0
  · obtain ⟨hz1, hz2, hz3⟩ := HZ.out hr0
    have HROW := Lib.hid hz3
    clear HZ hz3
    subst hr0
    go_wp2_with fail
    refine (refw _ _ _).mono ?_
    rintro e wa ⟨rfl, rfl⟩
    cases h1 : inB 1073741824 q
    · have HE : Hid (stE 0 q = 1) := Lib.hid (by simp [stE, h1])
      clear h1
      go_wp2_with fail
      ((try simp only [Exit.inBlock, Exit.then]); refine bodyPost_ret (results_row3 rfl _ _ _ 27 _ (0, 0) _ rfl ((HF3.out.set_ 0 (.int .i64 0)).set_ 1 (.int .i64 0)) Try.underlying27 rfl (by kernel_rfl)) rfl ?_)
      exact ⟨ret_val (by rw [HE.out]; simp [rngO]), (HB3.out.setCell (p := ⟨w.heap.size + 1, 0, none⟩) (by simp) _).setCell (p := ⟨w.heap.size + 1, 1, none⟩) (by simp) _⟩
    have HE : Hid (stE 0 q = 0) := Lib.hid (by simp [stE, h1])
    clear h1
    go_wp2_with fail
    refine (HSL.out _ hz2 hz1 HROW.out ((HR.out hz1).below (HB3.out.mono hB)) (by omega)).mono ?_
    rintro e w4 ⟨rfl, hb4⟩
    have HB4 := Lib.hid (HB3.out.trans (hb4.mono (by omega)))
    have HG4 := Lib.hid (HG3.out.below hb4 (by omega))
    have HF4 := Lib.hid (HF3.out.below hb4 (by omega))
    clear hb4 cf0 cf1 hf0 hf1 cg0 cg1 cg2 cg3 cg4 cg5
    have hs4 := HF4.out.lt
    have cf0 : w4.cell? ⟨w.heap.size+1, 0, none⟩ = some (.int .i64 0) := HF4.out.cell 0
    have cf1 : w4.cell? ⟨w.heap.size+1, 1, none⟩ = some (.int .i64 0) := HF4.out.cell 1
    have hf0 := HF4.out.frozen 0
    have hf1 := HF4.out.frozen 1
    have cg0 : w4.cell? ⟨w.heap.size, 0, none⟩ = some (.int .i64 no) := HG4.out.cell 0
    have cg1 : w4.cell? ⟨w.heap.size, 1, none⟩ = some (.int .i64 rc) := HG4.out.cell 1
    have cg2 : w4.cell? ⟨w.heap.size, 2, none⟩ = some (.int .i64 cl) := HG4.out.cell 2
    have cg3 : w4.cell? ⟨w.heap.size, 3, none⟩ = some (.int .i64 dr) := HG4.out.cell 3
    have cg4 : w4.cell? ⟨w.heap.size, 4, none⟩ = some (.int .i64 si) := HG4.out.cell 4
    have cg5 : w4.cell? ⟨w.heap.size, 5, none⟩ = some (.slice A n c) := HG4.out.cell 5
    have hgw4 : w.heap.size < w4.heap.size := by omega
    go_wp2_with fail
    refine (HSH.out _ hz2 hz1 HROW.out ((HR.out hz1).below (HB4.out.mono hB)) (by omega)).mono ?_
    rintro e w5 ⟨rfl, hb5⟩
    have HB5 := Lib.hid (HB4.out.trans (hb5.mono (by omega)))
    have HG5 := Lib.hid (HG4.out.below hb5 (by omega))
    have HF5 := Lib.hid (HF4.out.below hb5 (by omega))
    clear hb5 cf0 cf1 hf0 hf1 cg0 cg1 cg2 cg3 cg4 cg5
    have hs5 := HF5.out.lt
    have cf0 : w5.cell? ⟨w.heap.size+1, 0, none⟩ = some (.int .i64 0) := HF5.out.cell 0
    have cf1 : w5.cell? ⟨w.heap.size+1, 1, none⟩ = some (.int .i64 0) := HF5.out.cell 1
    have hf0 := HF5.out.frozen 0
    have hf1 := HF5.out.frozen 1
    have cg0 : w5.cell? ⟨w.heap.size, 0, none⟩ = some (.int .i64 no) := HG5.out.cell 0
    have cg1 : w5.cell? ⟨w.heap.size, 1, none⟩ = some (.int .i64 rc) := HG5.out.cell 1
    have cg2 : w5.cell? ⟨w.heap.size, 2, none⟩ = some (.int .i64 cl) := HG5.out.cell 2
    have cg3 : w5.cell? ⟨w.heap.size, 3, none⟩ = some (.int .i64 dr) := HG5.out.cell 3
    have cg4 : w5.cell? ⟨w.heap.size, 4, none⟩ = some (.int .i64 si) := HG5.out.cell 4
    have cg5 : w5.cell? ⟨w.heap.size, 5, none⟩ = some (.slice A n c) := HG5.out.cell 5
    have hgw5 : w.heap.size < w5.heap.size := by omega
    clear HSL HSH
    by_cases hlh : lo < hi
    · have h1 : (lo : Int) ≤ (hi : Int) - 1 := by omega
      go_wp2_with fail
      ((try simp only [Exit.inBlock, Exit.then]); refine bodyPost_ret (results_row3 rfl _ _ _ 27 _ (0, 0) _ rfl ((HF5.out.set_ 0 (.int .i64 lo)).set_ 1 (.int .i64 ((hi : Int) - 1))) Try.underlying27 rfl (by kernel_rfl)) rfl ?_)
      exact ⟨ret_val (by rw [HE.out]; simp [rngO, hlh]), (HB5.out.setCell (p := ⟨w.heap.size + 1, 0, none⟩) (by simp) _).setCell (p := ⟨w.heap.size + 1, 1, none⟩) (by simp) _⟩
    · have h1 : (hi : Int) - 1 < (lo : Int) := by omega
      go_wp2_with fail
      ((try simp only [Exit.inBlock, Exit.then]); refine bodyPost_ret (results_row3 rfl _ _ _ 27 _ (0, 0) _ rfl ((HF5.out.set_ 0 (.int .i64 0)).set_ 1 (.int .i64 0)) Try.underlying27 rfl (by kernel_rfl)) rfl ?_)
      exact ⟨ret_val (by rw [HE.out]; simp [rngO, hlh]), (HB5.out.setCell (p := ⟨w.heap.size + 1, 0, none⟩) (by simp) _).setCell (p := ⟨w.heap.size + 1, 1, none⟩) (by simp) _⟩
  · have hr0' : (r == 0) = false := by rw [beq_eq_false_iff_ne]; exact hr0
    have HE : Hid (stE r q = r) := Lib.hid (by simp [stE, hr0])
    have HN : Hid (r ≠ 0) := Lib.hid hr0
    clear HZ
    go_wp2_with fail
    ((try simp only [Exit.inBlock, Exit.then]); refine bodyPost_ret (results_row3 rfl _ _ _ 27 _ (0, 0) _ rfl ((HF3.out.set_ 0 (.int .i64 0)).set_ 1 (.int .i64 0)) Try.underlying27 rfl (by kernel_rfl)) rfl ?_)
    exact ⟨ret_val (by rw [HE.out]; simp [rngO, HN.out]), (HB3.out.setCell (p := ⟨w.heap.size + 1, 0, none⟩) (by simp) _).setCell (p := ⟨w.heap.size + 1, 1, none⟩) (by simp) _⟩
end Go.Proofs.Ytfddlodfmmnanaa
