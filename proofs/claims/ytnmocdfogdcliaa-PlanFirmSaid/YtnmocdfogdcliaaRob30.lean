/- Contract of the closure in the law PlanFirm. -/
import Derived.Test.YtnmocdfogdcliaaDemand
import Derived.Test.YtnmocdfogdcliaaRefFirm
namespace Go.Proofs.Ytnmocdfogdcliaa
open Go.RowKit

set_option maxRecDepth 100000 in
set_option maxHeartbeats 8000000 in
theorem robust_30 {PA : Option Addr} {n pc : Nat} {cp st fl : Int} {lo hi dm ou sp : Nat → Int} (B N cb sb sc : Nat) (SA : Option Addr) (sh : Nat → Int) (w : World) (hN : N ≤ 1048576) (hn : n ≤ 64) (hsh : ∀ j, j < n → 0 ≤ sh j ∧ sh j ≤ 1048576) (hB : B ≤ w.heap.size) (hc : Blk w cb 26 #[.int .i64 cp, .int .i64 st, .int .i64 fl, .slice PA n pc]) (hs : Blk w sb 41 #[.slice SA n sc])
    (hr : Rd w B PA (n * 5) (psc lo hi dm ou sp)) (hf : Rd w B SA n (fun j => .int .i64 (sh j))) :
    Calls Try.prog 30 #[.int .i64 N, .pointer (some ⟨cb, 0, none⟩), .pointer (some ⟨sb, 0, none⟩)] w fun e w' => e = .returned (.bool (frmB cp st fl n lo hi ou sp sh N)) ∧ Below w.heap.size w w' := by
  have HDM := Lib.hid (demanding_31 (PA := PA) (n := n) (pc := pc) (cp := cp) (st := st) (fl := fl) (lo := lo) (hi := hi) (dm := dm) (ou := ou) (sp := sp) B N sc SA sh w hN hn hsh hB hr hf)
  have HC := Lib.hid hc
  have HFB : Hid (frmB cp st fl n lo hi ou sp sh N = (decide (chkE cp st fl n lo hi (mul N sh) ou sp = 0) && ri3 (rb cp fl n lo hi (mul N sh) ou sp 0).1 st (rb cp fl n lo hi (mul N sh) ou sp 0).2)) := Lib.hid rfl
  generalize frmB cp st fl n lo hi ou sp sh N = V at HFB ⊢
  have hclt := hc.lt
  have c0 : w.cell? ⟨cb, 0, none⟩ = some (.int .i64 cp) := hc.cell 0
  have c1 : w.cell? ⟨cb, 1, none⟩ = some (.int .i64 st) := hc.cell 1
  have c2 : w.cell? ⟨cb, 2, none⟩ = some (.int .i64 fl) := hc.cell 2
  have c3 : w.cell? ⟨cb, 3, none⟩ = some (.slice PA n pc) := hc.cell 3
  have s0 : w.cell? ⟨sb, 0, none⟩ = some (.slice SA n sc) := hs.cell 0
  clear hr hf hc hs hsh hB
  go_enter Try.func30, Try.ntmps30
  go_wp2_with fail
  refine HDM.out.mono ?_
  rintro e w1 ⟨⟨A, c, rfl, hrd⟩, hb⟩
  have HB1 := Lib.hid hb
  have HC1 := Lib.hid (HC.out.below hb hclt)
  have HR1 := Lib.hid hrd
  clear hb hrd HDM HC c0 c1 c2 c3 s0
  go_upto_region 2 with fail
  obtain ⟨w2, hw2⟩ : ∃ zz, zz = w1.alloc (.cells #[.int .i64 cp, .int .i64 st, .int .i64 fl, .slice A n c] 26) := ⟨_, rfl⟩
  have HD2 : Hid (Blk w2 w1.heap.size 26 #[.int .i64 cp, .int .i64 st, .int .i64 fl, .slice A n c]) := Lib.hid (hw2 ▸ Blk.new _ _ _)
  have HC2 : Hid (Blk w2 cb 26 #[.int .i64 cp, .int .i64 st, .int .i64 fl, .slice PA n pc]) := Lib.hid (hw2 ▸ HC1.out.alloc _)
  have HB2 : Hid (Below w.heap.size w w2) := Lib.hid (hw2 ▸ HB1.out.alloc HB1.out.size _)
  have HRB := Lib.hid (Robust_12 (PA := A) (n := n) (pc := c) (cp := cp) (st := st) (fl := fl) w1.heap.size w2 (by omega) (by rw [hw2]; simp) (hw2 ▸ HR1.out.alloc (Nat.le_refl _) _))
  rw [← hw2]
  clear hw2 HB1 HC1 HR1
  generalize w1.heap.size = db at *
  clear w1
  generalize rb cp fl n lo hi (mul N sh) ou sp = F at HFB HRB
  generalize chkE cp st fl n lo hi (mul N sh) ou sp = CE at HFB HRB
  have c0 : w2.cell? ⟨db, 0, none⟩ = some (.int .i64 cp) := HD2.out.cell 0
  have c1 : w2.cell? ⟨db, 1, none⟩ = some (.int .i64 st) := HD2.out.cell 1
  have c2 : w2.cell? ⟨db, 2, none⟩ = some (.int .i64 fl) := HD2.out.cell 2
  have c3 : w2.cell? ⟨db, 3, none⟩ = some (.slice A n c) := HD2.out.cell 3
  go_wp2_with fail
  refine HRB.out.mono ?_
  rintro e e3 ⟨⟨A1, k1, m1, rfl, hz1, hn1⟩, hb⟩
  have HB3 := Lib.hid (HB2.out.trans (hb.mono HB2.out.size))
  have HK3 := Lib.hid (HC2.out.below hb HC2.out.lt)
  have HZ1 := Lib.hid hz1
  have HN1 := Lib.hid hn1
  clear hb hz1 hn1 HB2 HC2 HD2 HRB c0 c1 c2 c3
  have c1 : e3.cell? ⟨cb, 1, none⟩ = some (.int .i64 st) := HK3.out.cell 1
  go_upto_region 3 with fail
  by_cases h1 : CE = 0
  · obtain ⟨rfl, rfl, hrow⟩ := HZ1.out h1
    obtain ⟨b1, o1, rfl, hb1l, p0, p1⟩ := rng_at hrow (show 0 < n + 1 by omega)
    rw [Nat.zero_mul, Nat.add_zero] at p0 p1
    have HPR : Hid (∀ W, Below e3.heap.size e3 W → W.cell? ⟨cb, 1, none⟩ = some (.int .i64 st) ∧ W.cell? ⟨b1, o1, none⟩ = some (.int .i64 (F 0).1) ∧ W.cell? ⟨b1, o1 + 1, none⟩ = some (.int .i64 (F 0).2)) := Lib.hid fun W h => ⟨(HK3.out.below h HK3.out.lt).cell 1, (h.cell (p := ⟨b1, o1, none⟩) hb1l).trans p0, (h.cell (p := ⟨b1, o1 + 1, none⟩) hb1l).trans p1⟩
    have HFV : Hid (V = ri3 (F 0).1 st (F 0).2) := Lib.hid (by rw [HFB.out, h1]; simp)
    have h1e : (CE == 0) = true := by simpa using h1
    have hn1 : (0 : Int) < (n : Int) + 1 := by omega
    clear hrow HZ1 HN1 HFB h1
    generalize (F 0).1 = R1 at *
    generalize (F 0).2 = R2 at *
    refine wp_region_tail (fun _ => True) (fun w' => w'.cell? ⟨cb, 1, none⟩ = some (.int .i64 st) ∧ w'.cell? ⟨b1, o1, none⟩ = some (.int .i64 R1) ∧ w'.cell? ⟨b1, o1 + 1, none⟩ = some (.int .i64 R2)) 16 16 (by kernel_rfl) ⟨trivial, c1, p0, p1⟩ (fun hHeld => ?_)
    refine wpAnyT_takeB (i := 0) (v := .int .i64 CE) rfl (by kernel_rfl) (by kernel_rfl) (by kernel_rfl) (by kernel_rfl) (by kernel_rfl) (by decide) (by decide) (fun _ _ _ h => h) (Or.inl ⟨by kernel_rfl, ?_⟩) hHeld ?_
    · intro w' hSw
      obtain ⟨o0, o2, o3⟩ := hSw
      go_simp
    refine wpAnyT_takeB (i := 1) (v := .bool true) rfl (by kernel_rfl) (by kernel_rfl) (by kernel_rfl) (by kernel_rfl) (by kernel_rfl) (by decide) (by decide) (fun _ _ _ h => h) (Or.inl ⟨by kernel_rfl, ?_⟩) hHeld ?_
    · intro w' hSw
      obtain ⟨o0, o2, o3⟩ := hSw
      go_simp
    simp only [Act.put]
    refine wpAnyT_takeB (i := 2) (v := .bool true) rfl (by kernel_rfl) (by kernel_rfl) (by kernel_rfl) (by kernel_rfl) (by kernel_rfl) (by decide) (by decide) (fun _ _ _ h => h) (Or.inl ⟨by kernel_rfl, ?_⟩) hHeld ?_
    · intro w' hSw
      obtain ⟨o0, o2, o3⟩ := hSw
      go_simp
    refine wpAnyT_takeB (i := 3) (v := .slice (some ⟨b1, o1, none⟩) (n + 1) (n + 1)) rfl (by kernel_rfl) (by kernel_rfl) (by kernel_rfl) (by kernel_rfl) (by kernel_rfl) (by decide) (by decide) (fun _ _ _ h => h) (Or.inl ⟨by kernel_rfl, ?_⟩) hHeld ?_
    · intro w' hSw
      obtain ⟨o0, o2, o3⟩ := hSw
      go_simp
    simp only [Act.put]
    refine wpAnyT_takeB (i := 4) (v := .int .i64 ((n : Int) + 1)) rfl (by kernel_rfl) (by kernel_rfl) (by kernel_rfl) (by kernel_rfl) (by kernel_rfl) (by decide) (by decide) (fun _ _ _ h => h) (Or.inl ⟨by kernel_rfl, ?_⟩) hHeld ?_
    · intro w' hSw
      obtain ⟨o0, o2, o3⟩ := hSw
      go_simp
    refine wpAnyT_takeB (i := 5) (v := .bool true) rfl (by kernel_rfl) (by kernel_rfl) (by kernel_rfl) (by kernel_rfl) (by kernel_rfl) (by decide) (by decide) (fun _ _ _ h => h) (Or.inl ⟨by kernel_rfl, ?_⟩) hHeld ?_
    · intro w' hSw
      obtain ⟨o0, o2, o3⟩ := hSw
      go_simp
    simp only [Act.put]
    refine wpAnyT_takeB (i := 6) (v := .bool true) rfl (by kernel_rfl) (by kernel_rfl) (by kernel_rfl) (by kernel_rfl) (by kernel_rfl) (by decide) (by decide) (fun _ _ _ h => h) (Or.inl ⟨by kernel_rfl, ?_⟩) hHeld ?_
    · intro w' hSw
      obtain ⟨o0, o2, o3⟩ := hSw
      go_simp
    refine wpAnyT_takeB (i := 7) (v := .bool true) rfl (by kernel_rfl) (by kernel_rfl) (by kernel_rfl) (by kernel_rfl) (by kernel_rfl) (by decide) (by decide) (fun _ _ _ h => h) (Or.inl ⟨by kernel_rfl, ?_⟩) hHeld ?_
    · intro w' hSw
      obtain ⟨o0, o2, o3⟩ := hSw
      go_simp
    simp only [Act.put]
    refine wpAnyT_takeB (i := 8) (v := .slice (some ⟨b1, o1, none⟩) (n + 1) (n + 1)) rfl (by kernel_rfl) (by kernel_rfl) (by kernel_rfl) (by kernel_rfl) (by kernel_rfl) (by decide) (by decide) (fun _ _ _ h => h) (Or.inl ⟨by kernel_rfl, ?_⟩) hHeld ?_
    · intro w' hSw
      obtain ⟨o0, o2, o3⟩ := hSw
      go_simp
    refine wpAnyT_takeB (i := 9) (v := .pointer (some ⟨b1, o1, none⟩)) rfl (by kernel_rfl) (by kernel_rfl) (by kernel_rfl) (by kernel_rfl) (by kernel_rfl) (by decide) (by decide) (fun _ _ _ h => h) (Or.inl ⟨by kernel_rfl, ?_⟩) hHeld ?_
    · intro w' hSw
      obtain ⟨o0, o2, o3⟩ := hSw
      go_simp
    simp only [Act.put]
    refine wpAnyT_takeB (i := 10) (v := .agg #[.int .i64 R1, .int .i64 R2]) rfl (by kernel_rfl) (by kernel_rfl) (by kernel_rfl) (by kernel_rfl) (by kernel_rfl) (by decide) (by decide) (fun _ _ _ h => h) (Or.inl ⟨by kernel_rfl, ?_⟩) hHeld ?_
    · intro w' hSw
      obtain ⟨o0, o2, o3⟩ := hSw
      go_simp
    refine wpAnyT_takeB (i := 11) (v := .pointer (some ⟨cb, 0, none⟩)) rfl (by kernel_rfl) (by kernel_rfl) (by kernel_rfl) (by kernel_rfl) (by kernel_rfl) (by decide) (by decide) (fun _ _ _ h => h) (Or.inl ⟨by kernel_rfl, ?_⟩) hHeld ?_
    · intro w' hSw
      obtain ⟨o0, o2, o3⟩ := hSw
      go_simp
    simp only [Act.put]
    refine wpAnyT_takeB (i := 12) (v := .pointer (some ⟨cb, 1, none⟩)) rfl (by kernel_rfl) (by kernel_rfl) (by kernel_rfl) (by kernel_rfl) (by kernel_rfl) (by decide) (by decide) (fun _ _ _ h => h) (Or.inl ⟨by kernel_rfl, ?_⟩) hHeld ?_
    · intro w' hSw
      obtain ⟨o0, o2, o3⟩ := hSw
      go_simp
    refine wpAnyT_takeB (i := 13) (v := .int .i64 st) rfl (by kernel_rfl) (by kernel_rfl) (by kernel_rfl) (by kernel_rfl) (by kernel_rfl) (by decide) (by decide) (fun _ _ _ h => h) (Or.inl ⟨by kernel_rfl, ?_⟩) hHeld ?_
    · intro w' hSw
      obtain ⟨o0, o2, o3⟩ := hSw
      go_simp
    simp only [Act.put]
    refine wpAnyT_one (T := fun w' => w'.cell? ⟨cb, 1, none⟩ = some (.int .i64 st) ∧ w'.cell? ⟨b1, o1, none⟩ = some (.int .i64 R1) ∧ w'.cell? ⟨b1, o1 + 1, none⟩ = some (.int .i64 R2)) (i := 14) (by kernel_rfl) rfl (fun _ h => ⟨fun _ => trivial, fun _ => h⟩) (fun K hK => ?_)
    go_simp
    go_at_call 25
    refine (Has_25 _ _ _ _).mono ?_
    rintro e e4 ⟨rfl, hb4⟩
    have HX4 : Below e3.heap.size e3 e4 := (Below.refl e3.heap.size e3).drew.trans hb4
    refine hK.out _ _ (HPR.out _ HX4) (fun hH => ?_)
    have hHeld := And.intro trivial hH
    clear hK K
    refine wpAnyT_takeB (i := 15) (v := .bool (ri3 R1 st R2)) rfl (by kernel_rfl) (by kernel_rfl) (by kernel_rfl) (by kernel_rfl) (by kernel_rfl) (by decide) (by decide) (fun _ _ _ h => h) (Or.inl ⟨by kernel_rfl, ?_⟩) hHeld ?_
    · intro w' hSw
      obtain ⟨o0, o2, o3⟩ := hSw
      go_simp
    simp only [Act.put]
    refine wpAnyT_one (T := fun _ => True) (i := 16) (by kernel_rfl) rfl (Ob.last (by kernel_rfl) (by kernel_rfl)) (fun K hK => ?_)
    go_simp
    refine hK.out _ _ trivial (fun _ => ?_)
    clear hK K
    refine wpAnyT_done (by kernel_rfl) ?_
    go_wp2_with fail
    go_ret
    exact ⟨ret_bool HFV.out.symm, HB3.out.trans (HX4.mono HB3.out.size)⟩
  · have HFV : Hid (V = false) := Lib.hid (by rw [HFB.out]; simp [h1])
    have h1e : (CE == 0) = false := by simpa using h1
    clear HFB HZ1 HN1
    refine wp_region_tail (fun _ => True) (fun _ => True) 16 16 (by kernel_rfl) ⟨trivial, trivial⟩ (fun hHeld => ?_)
    refine wpAnyT_takeB (i := 0) (v := .int .i64 CE) rfl (by kernel_rfl) (by kernel_rfl) (by kernel_rfl) (by kernel_rfl) (by kernel_rfl) (by decide) (by decide) (fun _ _ _ h => h) (Or.inl ⟨by kernel_rfl, ?_⟩) hHeld ?_
    · intro w' hSw
      go_simp
    refine wpAnyT_takeB (i := 1) (v := .bool false) rfl (by kernel_rfl) (by kernel_rfl) (by kernel_rfl) (by kernel_rfl) (by kernel_rfl) (by decide) (by decide) (fun _ _ _ h => h) (Or.inl ⟨by kernel_rfl, ?_⟩) hHeld ?_
    · intro w' hSw
      go_simp
    simp only [Act.put]
    refine wpAnyT_takeB (i := 2) (v := .bool false) rfl (by kernel_rfl) (by kernel_rfl) (by kernel_rfl) (by kernel_rfl) (by kernel_rfl) (by decide) (by decide) (fun _ _ _ h => h) (Or.inl ⟨by kernel_rfl, ?_⟩) hHeld ?_
    · intro w' hSw
      go_simp
    simp only [Act.put]
    refine wpAnyT_takeB (i := 3) (v := undef) rfl (by kernel_rfl) (by kernel_rfl) (by kernel_rfl) (by kernel_rfl) (by kernel_rfl) (by decide) (by decide) (fun _ _ _ h => h) (Or.inr ⟨by kernel_rfl, rfl⟩) hHeld ?_
    simp only [Act.put]
    refine wpAnyT_takeB (i := 4) (v := undef) rfl (by kernel_rfl) (by kernel_rfl) (by kernel_rfl) (by kernel_rfl) (by kernel_rfl) (by decide) (by decide) (fun _ _ _ h => h) (Or.inr ⟨by kernel_rfl, rfl⟩) hHeld ?_
    simp only [Act.put]
    refine wpAnyT_takeB (i := 5) (v := undef) rfl (by kernel_rfl) (by kernel_rfl) (by kernel_rfl) (by kernel_rfl) (by kernel_rfl) (by decide) (by decide) (fun _ _ _ h => h) (Or.inr ⟨by kernel_rfl, rfl⟩) hHeld ?_
    simp only [Act.put]
    refine wpAnyT_takeB (i := 6) (v := .bool false) rfl (by kernel_rfl) (by kernel_rfl) (by kernel_rfl) (by kernel_rfl) (by kernel_rfl) (by decide) (by decide) (fun _ _ _ h => h) (Or.inl ⟨by kernel_rfl, ?_⟩) hHeld ?_
    · intro w' hSw
      go_simp
    refine wpAnyT_takeB (i := 7) (v := .bool false) rfl (by kernel_rfl) (by kernel_rfl) (by kernel_rfl) (by kernel_rfl) (by kernel_rfl) (by decide) (by decide) (fun _ _ _ h => h) (Or.inl ⟨by kernel_rfl, ?_⟩) hHeld ?_
    · intro w' hSw
      go_simp
    simp only [Act.put]
    refine wpAnyT_takeB (i := 8) (v := undef) rfl (by kernel_rfl) (by kernel_rfl) (by kernel_rfl) (by kernel_rfl) (by kernel_rfl) (by decide) (by decide) (fun _ _ _ h => h) (Or.inr ⟨by kernel_rfl, rfl⟩) hHeld ?_
    simp only [Act.put]
    refine wpAnyT_takeB (i := 9) (v := undef) rfl (by kernel_rfl) (by kernel_rfl) (by kernel_rfl) (by kernel_rfl) (by kernel_rfl) (by decide) (by decide) (fun _ _ _ h => h) (Or.inr ⟨by kernel_rfl, rfl⟩) hHeld ?_
    simp only [Act.put]
    refine wpAnyT_takeB (i := 10) (v := undef) rfl (by kernel_rfl) (by kernel_rfl) (by kernel_rfl) (by kernel_rfl) (by kernel_rfl) (by decide) (by decide) (fun _ _ _ h => h) (Or.inr ⟨by kernel_rfl, rfl⟩) hHeld ?_
    simp only [Act.put]
    refine wpAnyT_takeB (i := 11) (v := undef) rfl (by kernel_rfl) (by kernel_rfl) (by kernel_rfl) (by kernel_rfl) (by kernel_rfl) (by decide) (by decide) (fun _ _ _ h => h) (Or.inr ⟨by kernel_rfl, rfl⟩) hHeld ?_
    simp only [Act.put]
    refine wpAnyT_takeB (i := 12) (v := undef) rfl (by kernel_rfl) (by kernel_rfl) (by kernel_rfl) (by kernel_rfl) (by kernel_rfl) (by decide) (by decide) (fun _ _ _ h => h) (Or.inr ⟨by kernel_rfl, rfl⟩) hHeld ?_
    simp only [Act.put]
    refine wpAnyT_takeB (i := 13) (v := undef) rfl (by kernel_rfl) (by kernel_rfl) (by kernel_rfl) (by kernel_rfl) (by kernel_rfl) (by decide) (by decide) (fun _ _ _ h => h) (Or.inr ⟨by kernel_rfl, rfl⟩) hHeld ?_
    simp only [Act.put]
    refine wpAnyT_takeB (i := 14) (v := undef) rfl (by kernel_rfl) (by kernel_rfl) (by kernel_rfl) (by kernel_rfl) (by kernel_rfl) (by decide) (by decide) (fun _ _ _ h => h) (Or.inr ⟨by kernel_rfl, rfl⟩) hHeld ?_
    simp only [Act.put]
    refine wpAnyT_takeB (i := 15) (v := .bool false) rfl (by kernel_rfl) (by kernel_rfl) (by kernel_rfl) (by kernel_rfl) (by kernel_rfl) (by decide) (by decide) (fun _ _ _ h => h) (Or.inl ⟨by kernel_rfl, ?_⟩) hHeld ?_
    · intro w' hSw
      go_simp
    simp only [Act.put]
    refine wpAnyT_one (T := fun _ => True) (i := 16) (by kernel_rfl) rfl (Ob.last (by kernel_rfl) (by kernel_rfl)) (fun K hK => ?_)
    go_simp
    refine hK.out _ _ trivial (fun _ => ?_)
    clear hK K
    refine wpAnyT_done (by kernel_rfl) ?_
    go_wp2_with fail
    go_ret
    exact ⟨ret_bool HFV.out.symm, HB3.out.drew⟩
end Go.Proofs.Ytnmocdfogdcliaa
