/- Contract of the law PlanSpec: it returns true for every course. -/
import Derived.Test.YtnmocdfogdcliaaSane
import Derived.Test.YtnmocdfogdcliaaOpen
namespace Go.Proofs.Ytnmocdfogdcliaa
open Go.RowKit

set_option maxRecDepth 100000 in
set_option maxHeartbeats 8000000 in
theorem spec_3 {PA : Option Addr} {n pc : Nat} {cp st fl : Int} {lo hi dm ou sp : Nat → Int} (B : Nat) (w : World) (hn : n ≤ 9223372036854775807) (hB : B ≤ w.heap.size) (hr : Rd w B PA (n * 5) (psc lo hi dm ou sp)) :
    Calls Try.prog 3 #[(.agg #[.int .i64 cp, .int .i64 st, .int .i64 fl, .slice PA n pc])] w fun e w' => e = .returned (.bool true) ∧ Below w.heap.size w w' := by
  obtain ⟨w0, hw0⟩ : ∃ zz, zz = w.alloc (.cells #[.int .i64 cp, .int .i64 st, .int .i64 fl, .slice PA n pc] 26) := ⟨_, rfl⟩
  have HK0 : Hid (Blk w0 w.heap.size 26 #[.int .i64 cp, .int .i64 st, .int .i64 fl, .slice PA n pc]) := Lib.hid (hw0 ▸ Blk.new _ _ _)
  have HB0 : Hid (Below w.heap.size w w0) := Lib.hid (hw0 ▸ below_alloc _ _)
  have HW := Lib.hid hw0
  have H12 : Hid (∀ W, Below w.heap.size w W → Calls Try.prog 12 #[(.agg #[.int .i64 cp, .int .i64 st, .int .i64 fl, .slice PA n pc])] W fun e w' => RobR (chkE cp st fl n lo hi dm ou sp) n (rb cp fl n lo hi dm ou sp) e w' ∧ Below W.heap.size W w') := Lib.hid fun W h => Robust_12 B W hn (by have := h.size; omega) (hr.below (h.mono hB))
  have H13 : Hid (∀ W, Below w.heap.size w W → Calls Try.prog 13 #[(.agg #[.int .i64 cp, .int .i64 st, .int .i64 fl, .slice PA n pc])] W fun e w' => RobR (chkE cp st fl n lo hi dm ou sp) n (rb cp fl n lo hi dm ou sp) e w' ∧ Below W.heap.size W w') := Lib.hid fun W h => Robust_13 B W hn (by have := h.size; omega) (hr.below (h.mono hB))
  have H14 : Hid (∀ W, Below w.heap.size w W → Calls Try.prog 14 #[(.agg #[.int .i64 cp, .int .i64 st, .int .i64 fl, .slice PA n pc])] W fun e w' => e = .returned (.int .i64 (chkE cp st fl n lo hi dm ou sp)) ∧ Below W.heap.size W w') := Lib.hid fun W h => Check_14 B W hn (by have := h.size; omega) (hr.below (h.mono hB))
  have H15 : Hid (∀ W, Below w.heap.size w W → Calls Try.prog 15 #[(.agg #[.int .i64 cp, .int .i64 st, .int .i64 fl, .slice PA n pc])] W fun e w' => e = .returned (.int .i64 (chkE cp st fl n lo hi dm ou sp)) ∧ Below W.heap.size W w') := Lib.hid fun W h => ref_Check_15 B W hn (by have := h.size; omega) (hr.below (h.mono hB))
  have H64 : Hid ((chkE cp st fl n lo hi dm ou sp) = 0 → n ≤ 64) := Lib.hid fun h => (chk_zero h).1
  clear hw0 hr hn
  generalize rb cp fl n lo hi dm ou sp = f at H12 H13
  generalize (chkE cp st fl n lo hi dm ou sp) = CE at H12 H13 H14 H15 H64
  go_enter Try.func3, Try.ntmps3
  go_upto_region 1 with fail
  rw [← HW.out]
  clear HW
  go_wp2_with fail
  refine (sane_11 _).mono ?_
  rintro e w1 ⟨rfl, hb⟩
  have HB1 := Lib.hid (HB0.out.trans (hb.mono HB0.out.size))
  have HK1 := Lib.hid (HK0.out.below hb HK0.out.lt)
  clear hb HB0 HK0
  have c0 : w1.cell? ⟨w.heap.size, 0, none⟩ = some (.int .i64 cp) := HK1.out.cell 0
  have c1 : w1.cell? ⟨w.heap.size, 1, none⟩ = some (.int .i64 st) := HK1.out.cell 1
  have c2 : w1.cell? ⟨w.heap.size, 2, none⟩ = some (.int .i64 fl) := HK1.out.cell 2
  have c3 : w1.cell? ⟨w.heap.size, 3, none⟩ = some (.slice PA n pc) := HK1.out.cell 3
  go_wp2_with fail
  refine (H12.out _ HB1.out).mono ?_
  rintro e w2 ⟨⟨A1, k1, m1, rfl, hz1, hn1⟩, hb⟩
  have HB2 := Lib.hid (HB1.out.trans (hb.mono HB1.out.size))
  have HK2 := Lib.hid (HK1.out.below hb HK1.out.lt)
  have HZ1 := Lib.hid hz1
  have HN1 := Lib.hid hn1
  clear hb HB1 HK1 hz1 hn1 c0 c1 c2 c3
  have c0 : w2.cell? ⟨w.heap.size, 0, none⟩ = some (.int .i64 cp) := HK2.out.cell 0
  have c1 : w2.cell? ⟨w.heap.size, 1, none⟩ = some (.int .i64 st) := HK2.out.cell 1
  have c2 : w2.cell? ⟨w.heap.size, 2, none⟩ = some (.int .i64 fl) := HK2.out.cell 2
  have c3 : w2.cell? ⟨w.heap.size, 3, none⟩ = some (.slice PA n pc) := HK2.out.cell 3
  go_wp2_with fail
  refine (H13.out _ HB2.out).mono ?_
  rintro e w3 ⟨⟨A2, k2, m2, rfl, hz2, hn2⟩, hb⟩
  have HB3 := Lib.hid (HB2.out.trans (hb.mono HB2.out.size))
  have HK3 := Lib.hid (HK2.out.below hb HK2.out.lt)
  have hs : ∃ k, k ≤ 65 ∧ k1 = k ∧ k2 = k ∧ Rd w3 w3.heap.size A1 (k * 2) (rsc f) ∧ Rd w3 w3.heap.size A2 (k * 2) (rsc f) := by
    by_cases hc : CE = 0
    · obtain ⟨e1, _, r1⟩ := HZ1.out hc
      obtain ⟨e2, _, r2⟩ := hz2 hc
      have := H64.out hc
      exact ⟨n + 1, by omega, e1, e2, (r1.below hb).mono hb.size, r2⟩
    · obtain ⟨_, e1, _⟩ := HN1.out hc
      obtain ⟨_, e2, _⟩ := hn2 hc
      exact ⟨0, by omega, e1, e2, Rd.nil, Rd.nil⟩
  obtain ⟨k, hk, rfl, rfl, r1, r2⟩ := hs
  have HR1 := Lib.hid r1
  have HR2 := Lib.hid r2
  clear hb HB2 HK2 hz2 hn2 r1 r2 HZ1 HN1 H64 c0 c1 c2 c3
  have hkl := HK3.out.lt
  have c0 : w3.cell? ⟨w.heap.size, 0, none⟩ = some (.int .i64 cp) := HK3.out.cell 0
  have c1 : w3.cell? ⟨w.heap.size, 1, none⟩ = some (.int .i64 st) := HK3.out.cell 1
  have c2 : w3.cell? ⟨w.heap.size, 2, none⟩ = some (.int .i64 fl) := HK3.out.cell 2
  have c3 : w3.cell? ⟨w.heap.size, 3, none⟩ = some (.slice PA n pc) := HK3.out.cell 3
  have HCC : Hid (∀ W, Below w3.heap.size w3 W → (fun w' : World => w'.cell? ⟨w.heap.size, 0, none⟩ = some (.int .i64 cp) ∧ w'.cell? ⟨w.heap.size, 1, none⟩ = some (.int .i64 st) ∧ w'.cell? ⟨w.heap.size, 2, none⟩ = some (.int .i64 fl) ∧ w'.cell? ⟨w.heap.size, 3, none⟩ = some (.slice PA n pc)) W) := Lib.hid fun W h => by
    have y := HK3.out.below h hkl
    exact ⟨y.cell 0, y.cell 1, y.cell 2, y.cell 3⟩
  have hce : (CE == CE) = true := by simp
  go_upto_region 5 with fail
  refine wp_region_tail (fun _ => True) (fun w' => w'.cell? ⟨w.heap.size, 0, none⟩ = some (.int .i64 cp) ∧ w'.cell? ⟨w.heap.size, 1, none⟩ = some (.int .i64 st) ∧ w'.cell? ⟨w.heap.size, 2, none⟩ = some (.int .i64 fl) ∧ w'.cell? ⟨w.heap.size, 3, none⟩ = some (.slice PA n pc)) 15 15 (by kernel_rfl) ⟨trivial, HCC.out _ (Below.refl _ _).drew⟩ (fun hHeld => ?_)
  refine wpAnyT_takeB (i := 0) (v := .agg #[.int .i64 cp, .int .i64 st, .int .i64 fl, .slice PA n pc]) rfl (by kernel_rfl) (by kernel_rfl) (by kernel_rfl) (by kernel_rfl) (by kernel_rfl) (by decide) (by decide) (fun _ _ _ h => h) (Or.inl ⟨by kernel_rfl, ?_⟩) hHeld ?_
  · intro w' hSw
    obtain ⟨o0, o1, o2, o3⟩ := hSw
    go_simp
  refine wpAnyT_takeB (i := 2) (v := .agg #[.int .i64 cp, .int .i64 st, .int .i64 fl, .slice PA n pc]) rfl (by kernel_rfl) (by kernel_rfl) (by kernel_rfl) (by kernel_rfl) (by kernel_rfl) (by decide) (by decide) (fun _ _ _ h => h) (Or.inl ⟨by kernel_rfl, ?_⟩) hHeld ?_
  · intro w' hSw
    obtain ⟨o0, o1, o2, o3⟩ := hSw
    go_simp
  simp only [Act.put]
  refine wpAnyT_one (T := fun w' => w'.cell? ⟨w.heap.size, 0, none⟩ = some (.int .i64 cp) ∧ w'.cell? ⟨w.heap.size, 1, none⟩ = some (.int .i64 st) ∧ w'.cell? ⟨w.heap.size, 2, none⟩ = some (.int .i64 fl) ∧ w'.cell? ⟨w.heap.size, 3, none⟩ = some (.slice PA n pc)) (i := 1) (by kernel_rfl) rfl (fun _ h => ⟨fun _ => trivial, fun _ => h⟩) (fun K hK => ?_)
  go_simp
  go_at_call 14
  refine (H14.out w3.drew HB3.out.drew).mono ?_
  rintro e e1 ⟨rfl, hb1⟩
  have HX1 : Below w3.heap.size w3 e1 := (Below.refl w3.heap.size w3).drew.trans hb1
  refine hK.out _ _ (HCC.out _ HX1) (fun hH => ?_)
  have hHeld := And.intro trivial hH
  clear hK K
  refine wpAnyT_one (T := fun w' => w'.cell? ⟨w.heap.size, 0, none⟩ = some (.int .i64 cp) ∧ w'.cell? ⟨w.heap.size, 1, none⟩ = some (.int .i64 st) ∧ w'.cell? ⟨w.heap.size, 2, none⟩ = some (.int .i64 fl) ∧ w'.cell? ⟨w.heap.size, 3, none⟩ = some (.slice PA n pc)) (i := 3) (by kernel_rfl) rfl (fun _ h => ⟨fun _ => trivial, fun _ => h⟩) (fun K hK => ?_)
  go_simp
  go_at_call 15
  refine (H15.out e1 (HB3.out.trans (HX1.mono HB3.out.size))).mono ?_
  rintro e e2 ⟨rfl, hb2⟩
  have HX2 : Below w3.heap.size w3 e2 := HX1.trans (hb2.mono HX1.size)
  refine hK.out _ _ (HCC.out _ HX2) (fun hH => ?_)
  have hHeld := And.intro trivial hH
  clear hK K
  refine wpAnyT_takeB (i := 4) (v := .bool true) rfl (by kernel_rfl) (by kernel_rfl) (by kernel_rfl) (by kernel_rfl) (by kernel_rfl) (by decide) (by decide) (fun _ _ _ h => h) (Or.inl ⟨by kernel_rfl, ?_⟩) hHeld ?_
  · intro w' hSw
    obtain ⟨o0, o1, o2, o3⟩ := hSw
    go_simp
  refine wpAnyT_takeB (i := 5) (v := .bool true) rfl (by kernel_rfl) (by kernel_rfl) (by kernel_rfl) (by kernel_rfl) (by kernel_rfl) (by decide) (by decide) (fun _ _ _ h => h) (Or.inl ⟨by kernel_rfl, ?_⟩) hHeld ?_
  · intro w' hSw
    obtain ⟨o0, o1, o2, o3⟩ := hSw
    go_simp
  simp only [Act.put]
  refine wpAnyT_takeB (i := 6) (v := .slice A1 k2 m1) rfl (by kernel_rfl) (by kernel_rfl) (by kernel_rfl) (by kernel_rfl) (by kernel_rfl) (by decide) (by decide) (fun _ _ _ h => h) (Or.inl ⟨by kernel_rfl, ?_⟩) hHeld ?_
  · intro w' hSw
    obtain ⟨o0, o1, o2, o3⟩ := hSw
    go_simp
  refine wpAnyT_takeB (i := 7) (v := .slice A2 k2 m2) rfl (by kernel_rfl) (by kernel_rfl) (by kernel_rfl) (by kernel_rfl) (by kernel_rfl) (by decide) (by decide) (fun _ _ _ h => h) (Or.inl ⟨by kernel_rfl, ?_⟩) hHeld ?_
  · intro w' hSw
    obtain ⟨o0, o1, o2, o3⟩ := hSw
    go_simp
  simp only [Act.put]
  refine wpAnyT_one (T := fun w' => w'.cell? ⟨w.heap.size, 0, none⟩ = some (.int .i64 cp) ∧ w'.cell? ⟨w.heap.size, 1, none⟩ = some (.int .i64 st) ∧ w'.cell? ⟨w.heap.size, 2, none⟩ = some (.int .i64 fl) ∧ w'.cell? ⟨w.heap.size, 3, none⟩ = some (.slice PA n pc)) (i := 8) (by kernel_rfl) rfl (fun _ h => ⟨fun _ => trivial, fun _ => h⟩) (fun K hK => ?_)
  go_simp
  go_at_call 16
  refine (same_16 A1 A2 k2 m1 m2 w3.heap.size f e2 (by omega) (HR1.out.below HX2) (HR2.out.below HX2)).mono ?_
  rintro e e3 ⟨rfl, hq3⟩
  have HX3 : Below w3.heap.size w3 e3 := below_quiet HX2 hq3
  refine hK.out _ _ (HCC.out _ HX3) (fun hH => ?_)
  have hHeld := And.intro trivial hH
  clear hK K
  refine wpAnyT_takeB (i := 9) (v := .bool true) rfl (by kernel_rfl) (by kernel_rfl) (by kernel_rfl) (by kernel_rfl) (by kernel_rfl) (by decide) (by decide) (fun _ _ _ h => h) (Or.inl ⟨by kernel_rfl, ?_⟩) hHeld ?_
  · intro w' hSw
    obtain ⟨o0, o1, o2, o3⟩ := hSw
    go_simp
  refine wpAnyT_takeB (i := 10) (v := .bool true) rfl (by kernel_rfl) (by kernel_rfl) (by kernel_rfl) (by kernel_rfl) (by kernel_rfl) (by decide) (by decide) (fun _ _ _ h => h) (Or.inl ⟨by kernel_rfl, ?_⟩) hHeld ?_
  · intro w' hSw
    obtain ⟨o0, o1, o2, o3⟩ := hSw
    go_simp
  simp only [Act.put]
  refine wpAnyT_takeB (i := 11) (v := .int .i64 CE) rfl (by kernel_rfl) (by kernel_rfl) (by kernel_rfl) (by kernel_rfl) (by kernel_rfl) (by decide) (by decide) (fun _ _ _ h => h) (Or.inl ⟨by kernel_rfl, ?_⟩) hHeld ?_
  · intro w' hSw
    obtain ⟨o0, o1, o2, o3⟩ := hSw
    go_simp
  refine wpAnyT_takeB (i := 12) (v := .int .i64 CE) rfl (by kernel_rfl) (by kernel_rfl) (by kernel_rfl) (by kernel_rfl) (by kernel_rfl) (by decide) (by decide) (fun _ _ _ h => h) (Or.inl ⟨by kernel_rfl, ?_⟩) hHeld ?_
  · intro w' hSw
    obtain ⟨o0, o1, o2, o3⟩ := hSw
    go_simp
  simp only [Act.put]
  refine wpAnyT_takeB (i := 13) (v := .bool true) rfl (by kernel_rfl) (by kernel_rfl) (by kernel_rfl) (by kernel_rfl) (by kernel_rfl) (by decide) (by decide) (fun _ _ _ h => h) (Or.inl ⟨by kernel_rfl, ?_⟩) hHeld ?_
  · intro w' hSw
    obtain ⟨o0, o1, o2, o3⟩ := hSw
    go_simp
  refine wpAnyT_takeB (i := 14) (v := .bool true) rfl (by kernel_rfl) (by kernel_rfl) (by kernel_rfl) (by kernel_rfl) (by kernel_rfl) (by decide) (by decide) (fun _ _ _ h => h) (Or.inl ⟨by kernel_rfl, ?_⟩) hHeld ?_
  · intro w' hSw
    obtain ⟨o0, o1, o2, o3⟩ := hSw
    go_simp
  simp only [Act.put]
  refine wpAnyT_one (T := fun _ => True) (i := 15) (by kernel_rfl) rfl (Ob.last (by kernel_rfl) (by kernel_rfl)) (fun K hK => ?_)
  go_simp
  refine hK.out _ _ trivial (fun _ => ?_)
  clear hK K
  refine wpAnyT_done (by kernel_rfl) ?_
  go_wp2_with fail
  go_ret
  exact ⟨rfl, HB3.out.trans (HX3.mono HB3.out.size)⟩
end Go.Proofs.Ytnmocdfogdcliaa
