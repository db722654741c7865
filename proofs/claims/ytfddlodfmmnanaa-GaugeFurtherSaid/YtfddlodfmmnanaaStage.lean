/- Contracts of Stage. No condition. -/
import Derived.Test.YtfddlodfmmnanaaRefRead
import Derived.Deep.RegionHeld3
namespace Go.Proofs.Ytfddlodfmmnanaa
open Go.RowKit

set_option maxRecDepth 100000 in
set_option maxHeartbeats 2000000 in
theorem st_26 (i gb sb : Nat) (no rc cl dr si q : Int) (A : Option Addr) (n c B : Nat) (S F : Nat → Int) (w : World) (hn : n ≠ 0) (hm : n ≤ 64) (hB : B ≤ w.heap.size) (hr : RdP w B A n S F) (hrow : rowsB S F n = true)
    (hg : Blk w gb 24 #[.int .i64 no, .int .i64 rc, .int .i64 cl, .int .i64 dr, .int .i64 si, .slice A n c]) (hs : Blk w sb 3 #[.int .i64 q]) :
    Calls Try.prog 26 (#[.int .i64 i] ++ #[.pointer (some ⟨gb, 0, none⟩), .pointer (some ⟨sb, 0, none⟩)]) w fun e w' => e = .returned (.bool (decide (q ≤ fHi S F n i))) ∧ Below w.heap.size w w' := by
  have hd : Calls Try.prog 20 #[.agg #[.int .i64 no, .int .i64 rc, .int .i64 cl, .int .i64 dr, .int .i64 si, .slice A n c], .int .i64 i] w.drew fun e w' => e = .returned (.agg #[.int .i64 (fLo S F n i), .int .i64 (fHi S F n i)]) ∧ Below w.heap.size w w' ∧
      w'.cell? ⟨gb, 0, none⟩ = some (.int .i64 no) ∧ w'.cell? ⟨gb, 1, none⟩ = some (.int .i64 rc) ∧ w'.cell? ⟨gb, 2, none⟩ = some (.int .i64 cl) ∧ w'.cell? ⟨gb, 3, none⟩ = some (.int .i64 dr) ∧ w'.cell? ⟨gb, 4, none⟩ = some (.int .i64 si) ∧
      w'.cell? ⟨gb, 5, none⟩ = some (.slice A n c) ∧ w'.cell? ⟨sb, 0, none⟩ = some (.int .i64 q) :=
    (flow_20 no rc cl dr si A n c B S F i w.drew hn hm hB hr.drew hrow).mono fun e w' h => by
      have hb : Below w.heap.size w w' := (Below.refl w.heap.size w).drew.trans h.2
      have hg' := hg.below hb hg.lt
      have hs' := hs.below hb hs.lt
      exact ⟨h.1, hb, hg'.cell 0, hg'.cell 1, hg'.cell 2, hg'.cell 3, hg'.cell 4, hg'.cell 5, hs'.cell 0⟩
  have HD := Lib.hid hd
  clear hd hr hrow
  have c0 : w.cell? ⟨gb, 0, none⟩ = some (.int .i64 no) := hg.cell 0
  have c1 : w.cell? ⟨gb, 1, none⟩ = some (.int .i64 rc) := hg.cell 1
  have c2 : w.cell? ⟨gb, 2, none⟩ = some (.int .i64 cl) := hg.cell 2
  have c3 : w.cell? ⟨gb, 3, none⟩ = some (.int .i64 dr) := hg.cell 3
  have c4 : w.cell? ⟨gb, 4, none⟩ = some (.int .i64 si) := hg.cell 4
  have c5 : w.cell? ⟨gb, 5, none⟩ = some (.slice A n c) := hg.cell 5
  have cs : w.cell? ⟨sb, 0, none⟩ = some (.int .i64 q) := hs.cell 0
  clear hg hs
  generalize fLo S F n i = lo at HD ⊢
  generalize fHi S F n i = hi at HD ⊢
  have hfld : ∀ w, Sem.run Try.prog (Instr.field 27 (.agg #[.int .i64 lo, .int .i64 hi]) 1) w = .ok (.int .i64 hi) w := fun _ => by kernel_rfl
  go_enter Try.func26, Try.ntmps26
  go_wp2_with fail
  go_region_held3 (fun w' => w'.cell? ⟨gb, 0, none⟩ = some (.int .i64 no) ∧ w'.cell? ⟨gb, 1, none⟩ = some (.int .i64 rc) ∧ w'.cell? ⟨gb, 2, none⟩ = some (.int .i64 cl) ∧ w'.cell? ⟨gb, 3, none⟩ = some (.int .i64 dr) ∧ w'.cell? ⟨gb, 4, none⟩ = some (.int .i64 si) ∧
      w'.cell? ⟨gb, 5, none⟩ = some (.slice A n c) ∧ w'.cell? ⟨sb, 0, none⟩ = some (.int .i64 q)) (go_keep)
    (first | (go_at_call 20; refine HD.out.mono ?_; rintro e w' ⟨rfl, hb, k0, k1, k2, k3, k4, k5, k6⟩))
  go_wp2_with fail
  go_ret
  exact ⟨rfl, by assumption⟩

set_option maxRecDepth 100000 in
set_option maxHeartbeats 2000000 in
theorem st_27 (i gb sb : Nat) (no rc cl dr si q : Int) (A : Option Addr) (n c B : Nat) (S F : Nat → Int) (w : World) (hn : n ≠ 0) (hm : n ≤ 64) (hB : B ≤ w.heap.size) (hr : RdP w B A n S F) (hrow : rowsB S F n = true)
    (hg : Blk w gb 24 #[.int .i64 no, .int .i64 rc, .int .i64 cl, .int .i64 dr, .int .i64 si, .slice A n c]) (hs : Blk w sb 3 #[.int .i64 q]) :
    Calls Try.prog 27 (#[.int .i64 i] ++ #[.pointer (some ⟨gb, 0, none⟩), .pointer (some ⟨sb, 0, none⟩)]) w fun e w' => e = .returned (.bool (decide (q < fLo S F n i))) ∧ Below w.heap.size w w' := by
  have hd : Calls Try.prog 20 #[.agg #[.int .i64 no, .int .i64 rc, .int .i64 cl, .int .i64 dr, .int .i64 si, .slice A n c], .int .i64 i] w.drew fun e w' => e = .returned (.agg #[.int .i64 (fLo S F n i), .int .i64 (fHi S F n i)]) ∧ Below w.heap.size w w' ∧
      w'.cell? ⟨gb, 0, none⟩ = some (.int .i64 no) ∧ w'.cell? ⟨gb, 1, none⟩ = some (.int .i64 rc) ∧ w'.cell? ⟨gb, 2, none⟩ = some (.int .i64 cl) ∧ w'.cell? ⟨gb, 3, none⟩ = some (.int .i64 dr) ∧ w'.cell? ⟨gb, 4, none⟩ = some (.int .i64 si) ∧
      w'.cell? ⟨gb, 5, none⟩ = some (.slice A n c) ∧ w'.cell? ⟨sb, 0, none⟩ = some (.int .i64 q) :=
    (flow_20 no rc cl dr si A n c B S F i w.drew hn hm hB hr.drew hrow).mono fun e w' h => by
      have hb : Below w.heap.size w w' := (Below.refl w.heap.size w).drew.trans h.2
      have hg' := hg.below hb hg.lt
      have hs' := hs.below hb hs.lt
      exact ⟨h.1, hb, hg'.cell 0, hg'.cell 1, hg'.cell 2, hg'.cell 3, hg'.cell 4, hg'.cell 5, hs'.cell 0⟩
  have HD := Lib.hid hd
  clear hd hr hrow
  have c0 : w.cell? ⟨gb, 0, none⟩ = some (.int .i64 no) := hg.cell 0
  have c1 : w.cell? ⟨gb, 1, none⟩ = some (.int .i64 rc) := hg.cell 1
  have c2 : w.cell? ⟨gb, 2, none⟩ = some (.int .i64 cl) := hg.cell 2
  have c3 : w.cell? ⟨gb, 3, none⟩ = some (.int .i64 dr) := hg.cell 3
  have c4 : w.cell? ⟨gb, 4, none⟩ = some (.int .i64 si) := hg.cell 4
  have c5 : w.cell? ⟨gb, 5, none⟩ = some (.slice A n c) := hg.cell 5
  have cs : w.cell? ⟨sb, 0, none⟩ = some (.int .i64 q) := hs.cell 0
  clear hg hs
  generalize fLo S F n i = lo at HD ⊢
  generalize fHi S F n i = hi at HD ⊢
  have hfld : ∀ w, Sem.run Try.prog (Instr.field 27 (.agg #[.int .i64 lo, .int .i64 hi]) 0) w = .ok (.int .i64 lo) w := fun _ => by kernel_rfl
  go_enter Try.func27, Try.ntmps27
  go_wp2_with fail
  go_region_held3 (fun w' => w'.cell? ⟨gb, 0, none⟩ = some (.int .i64 no) ∧ w'.cell? ⟨gb, 1, none⟩ = some (.int .i64 rc) ∧ w'.cell? ⟨gb, 2, none⟩ = some (.int .i64 cl) ∧ w'.cell? ⟨gb, 3, none⟩ = some (.int .i64 dr) ∧ w'.cell? ⟨gb, 4, none⟩ = some (.int .i64 si) ∧
      w'.cell? ⟨gb, 5, none⟩ = some (.slice A n c) ∧ w'.cell? ⟨sb, 0, none⟩ = some (.int .i64 q)) (go_keep)
    (first | (go_at_call 20; refine HD.out.mono ?_; rintro e w' ⟨rfl, hb, k0, k1, k2, k3, k4, k5, k6⟩))
  go_wp2_with fail
  go_ret
  exact ⟨rfl, by assumption⟩

/-- the error of Stage -/
def stE (r q : Int) : Int := if r = 0 then if inB 1073741824 q = true then 0 else 1 else r
/-- the stages, whether there are any, and an error -/
def rngO (E : Int) (lo hi : Nat) : Value := .tuple #[.agg #[.int .i64 (if E = 0 ∧ lo < hi then lo else 0), .int .i64 (if E = 0 ∧ lo < hi then (hi : Int) - 1 else 0)], .bool (decide (E = 0 ∧ lo < hi)), .int .i64 E]

set_option maxRecDepth 100000 in
set_option maxHeartbeats 4000000 in
theorem Stage_17 (no rc cl dr si : Int) (A : Option Addr) (n c B : Nat) (S F : Nat → Int) (q : Int) (w : World) (hm : n ≤ 9223372036854775807) (hB : B ≤ w.heap.size) (hr : n ≤ 64 → RdP w B A n S F) :
    Calls Try.prog 17 #[gv no rc cl dr si A n c, .int .i64 q] w fun e w' => e = .returned (rngO (stE (chk no rc cl dr si n S F) q) (stLo S F n q) (stHi S F n q)) ∧ Below w.heap.size w w' := by
  have HC : Hid (∀ W, (n ≤ 64 → RdP W B A n S F) → B ≤ W.heap.size → Calls Try.prog 13 #[gv no rc cl dr si A n c] W fun e w' => e = .returned (.int .i64 (chk no rc cl dr si n S F)) ∧ Below W.heap.size W w') :=
    Lib.hid fun W h1 h2 => check_13 no rc cl dr si A n c B S F W hm h2 h1
  have HZ : Hid (chk no rc cl dr si n S F = 0 → n ≤ 64 ∧ n ≠ 0 ∧ rowsB S F n = true) := Lib.hid fun h => ⟨(chk_zero h).1, (chk_zero h).2.1, (chk_zero h).2.2.2⟩
  have HR := Lib.hid hr
  clear hr
  have eg26 : ∀ args w, (callFunc 26 args).run Try.prog w = .ok (.enter 26 args) w := enters_of Try.func26 (by kernel_rfl) rfl
  have eg27 : ∀ args w, (callFunc 27 args).run Try.prog w = .ok (.enter 27 args) w := enters_of Try.func27 (by kernel_rfl) rfl
  obtain ⟨lo, hlo⟩ : ∃ lo, lo = stLo S F n q := ⟨_, rfl⟩
  obtain ⟨hi, hhi⟩ : ∃ hi, hi = stHi S F n q := ⟨_, rfl⟩
  have hlo1 : lo ≤ 1048577 := hlo ▸ stLo_le S F n q
  have hhi1 : hi ≤ 1048577 := hhi ▸ stHi_le S F n q
  have HSL : Hid (∀ (W : World) (gb sb : Nat), n ≠ 0 → n ≤ 64 → rowsB S F n = true → RdP W B A n S F → B ≤ W.heap.size → Blk W gb 24 #[.int .i64 no, .int .i64 rc, .int .i64 cl, .int .i64 dr, .int .i64 si, .slice A n c] → Blk W sb 3 #[.int .i64 q] →
      Calls Try.prog 25 #[.int .i64 1048577, .func (.func 26) #[] #[.pointer (some ⟨gb, 0, none⟩), .pointer (some ⟨sb, 0, none⟩)]] W fun e w' => e = .returned (.int .i64 lo) ∧ Below W.heap.size W w') :=
    Lib.hid fun W gb sb h1 h2 h3 h4 h5 h6 h7 => search 26 _ 1048577 lo W eg26 (by omega) hlo1 fun W' i hb hi => by
      have h := st_26 i gb sb no rc cl dr si q A n c B S F W' h1 h2 (Nat.le_trans h5 hb.size) (h4.below (hb.mono h5)) h3 (h6.below hb h6.lt) (h7.below hb h7.lt)
      rw [stLo_test h3 h1 q hi, ← hlo] at h
      exact h
  have HSH : Hid (∀ (W : World) (gb sb : Nat), n ≠ 0 → n ≤ 64 → rowsB S F n = true → RdP W B A n S F → B ≤ W.heap.size → Blk W gb 24 #[.int .i64 no, .int .i64 rc, .int .i64 cl, .int .i64 dr, .int .i64 si, .slice A n c] → Blk W sb 3 #[.int .i64 q] →
      Calls Try.prog 25 #[.int .i64 1048577, .func (.func 27) #[] #[.pointer (some ⟨gb, 0, none⟩), .pointer (some ⟨sb, 0, none⟩)]] W fun e w' => e = .returned (.int .i64 hi) ∧ Below W.heap.size W w') :=
    Lib.hid fun W gb sb h1 h2 h3 h4 h5 h6 h7 => search 27 _ 1048577 hi W eg27 (by omega) hhi1 fun W' i hb hi => by
      have h := st_27 i gb sb no rc cl dr si q A n c B S F W' h1 h2 (Nat.le_trans h5 hb.size) (h4.below (hb.mono h5)) h3 (h6.below hb h6.lt) (h7.below hb h7.lt)
      rw [stHi_test h3 h1 q hi, ← hhi] at h
      exact h
  rw [← hlo, ← hhi]
  clear hlo hhi eg26 eg27
  generalize chk no rc cl dr si n S F = r at HC HZ ⊢
  unfold gv at HC ⊢
  go_enter Try.func17, Try.ntmps17
  go_wp2_with fail
  obtain ⟨w1, hw1⟩ : ∃ w1, w1 = w.alloc (.cells #[.int .i64 no, .int .i64 rc, .int .i64 cl, .int .i64 dr, .int .i64 si, .slice A n c] 24) := ⟨_, rfl⟩
  have hsz1 : w1.heap.size = w.heap.size + 1 := by rw [hw1]; simp
  obtain ⟨w2, hw2⟩ : ∃ w2, w2 = (w1.alloc (.cells #[.int .i64 q] 3)).alloc (.cells #[.int .i64 0, .int .i64 0] 27) := ⟨_, rfl⟩
  have HG2 : Hid (Blk w2 w.heap.size 24 #[.int .i64 no, .int .i64 rc, .int .i64 cl, .int .i64 dr, .int .i64 si, .slice A n c]) := Lib.hid (hw2 ▸ hw1 ▸ ((Blk.new _ _ _).alloc _).alloc _)
  have HQ2 : Hid (Blk w2 (w.heap.size + 1) 3 #[.int .i64 q]) := Lib.hid (by have := (Blk.new w1 3 #[.int .i64 q]).alloc (.cells #[.int .i64 0, .int .i64 0] 27); rw [hsz1] at this; rw [hw2]; exact this)
  have HF2 : Hid (Blk w2 (w.heap.size + 1 + 1) 27 #[.int .i64 0, .int .i64 0]) := Lib.hid (by have := Blk.new (w1.alloc (.cells #[.int .i64 q] 3)) 27 #[.int .i64 0, .int .i64 0]; rw [World.size_alloc, hsz1] at this; rw [hw2]; exact this)
  have HB2 : Hid (Below w.heap.size w w2) := Lib.hid (by rw [hw2, hw1]; (repeat (first | exact Below.refl _ _ | exact below_alloc _ _ | refine Below.alloc ?_ (by simp; omega) _ | refine Below.alloc ?_ (by simp) _)))
  rw [← hw1, ← hw2]
  clear hw1 hsz1 hw2
  have hs2 := HF2.out.lt
  refine (HC.out _ (fun h => (HR.out h).below (HB2.out.mono hB)) (by omega)).mono ?_
  rintro e w3 ⟨rfl, hb3⟩
  have HB3 := Lib.hid (HB2.out.trans (hb3.mono (by omega)))
  have HG3 := Lib.hid (HG2.out.below hb3 (by omega))
  have HF3 := Lib.hid (HF2.out.below hb3 (by omega))
  have HQ3 := Lib.hid (HQ2.out.below hb3 (by omega))
  clear hb3 HB2 HG2 HF2 HC HQ2
  have hs3 := HF3.out.lt
  have cf0 : w3.cell? ⟨(w.heap.size+1+1), 0, none⟩ = some (.int .i64 0) := HF3.out.cell 0
  have cf1 : w3.cell? ⟨(w.heap.size+1+1), 1, none⟩ = some (.int .i64 0) := HF3.out.cell 1
  have hf0 := HF3.out.frozen 0
  have hf1 := HF3.out.frozen 1
  have cg0 : w3.cell? ⟨w.heap.size, 0, none⟩ = some (.int .i64 no) := HG3.out.cell 0
  have cg1 : w3.cell? ⟨w.heap.size, 1, none⟩ = some (.int .i64 rc) := HG3.out.cell 1
  have cg2 : w3.cell? ⟨w.heap.size, 2, none⟩ = some (.int .i64 cl) := HG3.out.cell 2
  have cg3 : w3.cell? ⟨w.heap.size, 3, none⟩ = some (.int .i64 dr) := HG3.out.cell 3
  have cg4 : w3.cell? ⟨w.heap.size, 4, none⟩ = some (.int .i64 si) := HG3.out.cell 4
  have cg5 : w3.cell? ⟨w.heap.size, 5, none⟩ = some (.slice A n c) := HG3.out.cell 5
  have cq : w3.cell? ⟨w.heap.size + 1, 0, none⟩ = some (.int .i64 q) := HQ3.out.cell 0
  have hgw3 : w.heap.size < w3.heap.size := by omega
  have hgw3' : w.heap.size + 1 < w3.heap.size := by omega
  by_cases hr0 : r = 0
  · obtain ⟨hz1, hz2, hz3⟩ := HZ.out hr0
    have HROW := Lib.hid hz3
    clear HZ hz3
    subst hr0
    go_wp2_with fail
    refine (within_one _ _ _ _ (by simp)).mono ?_
    rintro e wa ⟨rfl, hwa⟩
    have hba : Below w3.heap.size w3 wa := hwa ▸ below_alloc _ _
    clear hwa
    have HQa := Lib.hid (HQ3.out.below hba (by omega))
    have HBa := Lib.hid (HB3.out.trans (hba.mono (by omega)))
    have HGa := Lib.hid (HG3.out.below hba (by omega))
    have HFa := Lib.hid (HF3.out.below hba (by omega))
    clear hba cf0 cf1 hf0 hf1 cg0 cg1 cg2 cg3 cg4 cg5
    have hsa := HFa.out.lt
    have cf0 : wa.cell? ⟨w.heap.size+1+1, 0, none⟩ = some (.int .i64 0) := HFa.out.cell 0
    have cf1 : wa.cell? ⟨w.heap.size+1+1, 1, none⟩ = some (.int .i64 0) := HFa.out.cell 1
    have hf0 := HFa.out.frozen 0
    have hf1 := HFa.out.frozen 1
    have cg0 : wa.cell? ⟨w.heap.size, 0, none⟩ = some (.int .i64 no) := HGa.out.cell 0
    have cg1 : wa.cell? ⟨w.heap.size, 1, none⟩ = some (.int .i64 rc) := HGa.out.cell 1
    have cg2 : wa.cell? ⟨w.heap.size, 2, none⟩ = some (.int .i64 cl) := HGa.out.cell 2
    have cg3 : wa.cell? ⟨w.heap.size, 3, none⟩ = some (.int .i64 dr) := HGa.out.cell 3
    have cg4 : wa.cell? ⟨w.heap.size, 4, none⟩ = some (.int .i64 si) := HGa.out.cell 4
    have cg5 : wa.cell? ⟨w.heap.size, 5, none⟩ = some (.slice A n c) := HGa.out.cell 5
    have hgwa : w.heap.size < wa.heap.size := by omega
    have hgwa' : w.heap.size + 1 < wa.heap.size := by omega
    clear cq
    cases h1 : inB 1073741824 q
    · have HE : Hid (stE 0 q = 1) := Lib.hid (by simp [stE, h1])
      clear h1
      go_wp2_with fail
      ((try simp only [Exit.inBlock, Exit.then]); refine bodyPost_ret (results_row3 rfl _ _ _ 27 _ (0, 0) _ rfl ((HFa.out.set_ 0 (.int .i64 0)).set_ 1 (.int .i64 0)) Try.underlying27 rfl (by kernel_rfl)) rfl ?_)
      exact ⟨ret_val (by rw [HE.out]; simp [rngO]), (HBa.out.setCell (p := ⟨w.heap.size + 1 + 1, 0, none⟩) (by simp; omega) _).setCell (p := ⟨w.heap.size + 1 + 1, 1, none⟩) (by simp; omega) _⟩
    have HE : Hid (stE 0 q = 0) := Lib.hid (by simp [stE, h1])
    clear h1
    go_wp2_with fail
    refine (HSL.out _ _ _ hz2 hz1 HROW.out ((HR.out hz1).below (HBa.out.mono hB)) (by omega) HGa.out HQa.out).mono ?_
    rintro e w4 ⟨rfl, hb4⟩
    have HQ4 := Lib.hid (HQa.out.below hb4 (by omega))
    have HB4 := Lib.hid (HBa.out.trans (hb4.mono (by omega)))
    have HG4 := Lib.hid (HGa.out.below hb4 (by omega))
    have HF4 := Lib.hid (HFa.out.below hb4 (by omega))
    clear hb4 cf0 cf1 hf0 hf1 cg0 cg1 cg2 cg3 cg4 cg5
    have hs4 := HF4.out.lt
    have cf0 : w4.cell? ⟨w.heap.size+1+1, 0, none⟩ = some (.int .i64 0) := HF4.out.cell 0
    have cf1 : w4.cell? ⟨w.heap.size+1+1, 1, none⟩ = some (.int .i64 0) := HF4.out.cell 1
    have hf0 := HF4.out.frozen 0
    have hf1 := HF4.out.frozen 1
    have cg0 : w4.cell? ⟨w.heap.size, 0, none⟩ = some (.int .i64 no) := HG4.out.cell 0
    have cg1 : w4.cell? ⟨w.heap.size, 1, none⟩ = some (.int .i64 rc) := HG4.out.cell 1
    have cg2 : w4.cell? ⟨w.heap.size, 2, none⟩ = some (.int .i64 cl) := HG4.out.cell 2
    have cg3 : w4.cell? ⟨w.heap.size, 3, none⟩ = some (.int .i64 dr) := HG4.out.cell 3
    have cg4 : w4.cell? ⟨w.heap.size, 4, none⟩ = some (.int .i64 si) := HG4.out.cell 4
    have cg5 : w4.cell? ⟨w.heap.size, 5, none⟩ = some (.slice A n c) := HG4.out.cell 5
    have hgw4 : w.heap.size < w4.heap.size := by omega
    go_wp2_with fail
    refine (HSH.out _ _ _ hz2 hz1 HROW.out ((HR.out hz1).below (HB4.out.mono hB)) (by omega) HG4.out HQ4.out).mono ?_
    rintro e w5 ⟨rfl, hb5⟩
    have HB5 := Lib.hid (HB4.out.trans (hb5.mono (by omega)))
    have HG5 := Lib.hid (HG4.out.below hb5 (by omega))
    have HF5 := Lib.hid (HF4.out.below hb5 (by omega))
    clear hb5 cf0 cf1 hf0 hf1 cg0 cg1 cg2 cg3 cg4 cg5
    have hs5 := HF5.out.lt
    have cf0 : w5.cell? ⟨w.heap.size+1+1, 0, none⟩ = some (.int .i64 0) := HF5.out.cell 0
    have cf1 : w5.cell? ⟨w.heap.size+1+1, 1, none⟩ = some (.int .i64 0) := HF5.out.cell 1
    have hf0 := HF5.out.frozen 0
    have hf1 := HF5.out.frozen 1
    have cg0 : w5.cell? ⟨w.heap.size, 0, none⟩ = some (.int .i64 no) := HG5.out.cell 0
    have cg1 : w5.cell? ⟨w.heap.size, 1, none⟩ = some (.int .i64 rc) := HG5.out.cell 1
    have cg2 : w5.cell? ⟨w.heap.size, 2, none⟩ = some (.int .i64 cl) := HG5.out.cell 2
    have cg3 : w5.cell? ⟨w.heap.size, 3, none⟩ = some (.int .i64 dr) := HG5.out.cell 3
    have cg4 : w5.cell? ⟨w.heap.size, 4, none⟩ = some (.int .i64 si) := HG5.out.cell 4
    have cg5 : w5.cell? ⟨w.heap.size, 5, none⟩ = some (.slice A n c) := HG5.out.cell 5
    have hgw5 : w.heap.size < w5.heap.size := by omega
    clear HSL HSH
    by_cases hlh : lo < hi
    · have h1 : (lo : Int) ≤ (hi : Int) - 1 := by omega
      go_wp2_with fail
      ((try simp only [Exit.inBlock, Exit.then]); refine bodyPost_ret (results_row3 rfl _ _ _ 27 _ (0, 0) _ rfl ((HF5.out.set_ 0 (.int .i64 lo)).set_ 1 (.int .i64 ((hi : Int) - 1))) Try.underlying27 rfl (by kernel_rfl)) rfl ?_)
      exact ⟨ret_val (by rw [HE.out]; simp [rngO, hlh]), (HB5.out.setCell (p := ⟨w.heap.size + 1 + 1, 0, none⟩) (by simp; omega) _).setCell (p := ⟨w.heap.size + 1 + 1, 1, none⟩) (by simp; omega) _⟩
    · have h1 : (hi : Int) - 1 < (lo : Int) := by omega
      go_wp2_with fail
      ((try simp only [Exit.inBlock, Exit.then]); refine bodyPost_ret (results_row3 rfl _ _ _ 27 _ (0, 0) _ rfl ((HF5.out.set_ 0 (.int .i64 0)).set_ 1 (.int .i64 0)) Try.underlying27 rfl (by kernel_rfl)) rfl ?_)
      exact ⟨ret_val (by rw [HE.out]; simp [rngO, hlh]), (HB5.out.setCell (p := ⟨w.heap.size + 1 + 1, 0, none⟩) (by simp; omega) _).setCell (p := ⟨w.heap.size + 1 + 1, 1, none⟩) (by simp; omega) _⟩
  · have hr0' : (r == 0) = false := by rw [beq_eq_false_iff_ne]; exact hr0
    have HE : Hid (stE r q = r) := Lib.hid (by simp [stE, hr0])
    have HN : Hid (r ≠ 0) := Lib.hid hr0
    clear HZ
    go_wp2_with fail
    ((try simp only [Exit.inBlock, Exit.then]); refine bodyPost_ret (results_row3 rfl _ _ _ 27 _ (0, 0) _ rfl ((HF3.out.set_ 0 (.int .i64 0)).set_ 1 (.int .i64 0)) Try.underlying27 rfl (by kernel_rfl)) rfl ?_)
    exact ⟨ret_val (by rw [HE.out]; simp [rngO, HN.out]), (HB3.out.setCell (p := ⟨w.heap.size + 1 + 1, 0, none⟩) (by simp; omega) _).setCell (p := ⟨w.heap.size + 1 + 1, 1, none⟩) (by simp; omega) _⟩
end Go.Proofs.Ytfddlodfmmnanaa
