/- Contract of the reference's firm. -/
import Derived.Test.YtnmocdfogdcliaaFails
namespace Go.Proofs.Ytnmocdfogdcliaa
open Go.RowKit

theorem rowX_succ (lo hi dm ou sp : Nat → Int) (k : Nat) : rowX lo hi dm ou sp k ++ [.int .i64 (lo k), .int .i64 (hi k), .int .i64 (dm k), .int .i64 (ou k), .int .i64 (sp k)] = rowX lo hi dm ou sp (k + 1) := by
  unfold rowX
  rw [Nat.add_mul, Nat.one_mul, List.range_succ, List.range_succ, List.range_succ, List.range_succ, List.range_succ]
  simp only [List.map_append, List.map_cons, List.map_nil, List.append_assoc, List.cons_append, List.nil_append]
  rw [psc_0, psc_1, psc_2, psc_3, psc_4]
theorem five_new {W : World} {g : Nat} {a b c d e : Value} (h : Blk W g 50 #[a, b, c, d, e]) : ∀ ad, some (⟨g, 0, none⟩ : Addr) = some ad → ∀ j u, [a, b, c, d, e][j]? = some u → W.cell? (ad.add j) = some u := by
  intro ad had j u hu
  cases had
  rw [add_none, h.cell, Nat.zero_add]
  match j, hu with
  | 0, hu => exact hu
  | 1, hu => exact hu
  | 2, hu => exact hu
  | 3, hu => exact hu
  | 4, hu => exact hu
theorem five_one (a b c d e : Int) : ∀ u ∈ [Value.int .i64 a, Value.int .i64 b, Value.int .i64 c, Value.int .i64 d, Value.int .i64 e], u.oneCell' = true := by
  intro u hu
  simp at hu
  rcases hu with rfl | rfl | rfl | rfl | rfl <;> rfl

set_option maxRecDepth 100000 in
set_option maxHeartbeats 8000000 in
theorem firm_46 {PA : Option Addr} {n pc : Nat} {cp st fl : Int} {lo hi dm ou sp : Nat → Int} (B N sc : Nat) (SA : Option Addr) (sh : Nat → Int) (w : World) (hN : N ≤ 1048577) (hn : n ≤ 64) (hsh : ∀ j, j < n → 0 ≤ sh j ∧ sh j ≤ 1048576) (hB : B ≤ w.heap.size) (hr : Rd w B PA (n * 5) (psc lo hi dm ou sp)) (hf : Rd w B SA n (fun j => .int .i64 (sh j))) :
    Calls Try.prog 46 #[(.agg #[.int .i64 cp, .int .i64 st, .int .i64 fl, .slice PA n pc]), .slice SA n sc, .int .i64 N] w fun e w' => e = .returned (.bool (frmB cp st fl n lo hi ou sp sh N)) ∧ Below w.heap.size w w' := by
  obtain ⟨w0, hw0⟩ : ∃ zz, zz = w.alloc (.cells #[.int .i64 cp, .int .i64 st, .int .i64 fl, .slice PA n pc] 26) := ⟨_, rfl⟩
  have HK0 : Hid (Blk w0 w.heap.size 26 #[.int .i64 cp, .int .i64 st, .int .i64 fl, .slice PA n pc]) := Lib.hid (hw0 ▸ Blk.new _ _ _)
  have HB0 : Hid (Below w.heap.size w w0) := Lib.hid (hw0 ▸ below_alloc _ _)
  have HW := Lib.hid hw0
  have HRD := Lib.hid hr
  have HF := Lib.hid hf
  have HSH := Lib.hid hsh
  clear hw0 hr hf hsh
  have HFB : Hid (frmB cp st fl n lo hi ou sp sh N = (decide (chkE cp st fl n lo hi (mul N sh) ou sp = 0) && ri3 (rb cp fl n lo hi (mul N sh) ou sp 0).1 st (rb cp fl n lo hi (mul N sh) ou sp 0).2)) := Lib.hid rfl
  generalize frmB cp st fl n lo hi ou sp sh N = V at HFB ⊢
  have hn' : (n : Int) ≤ 64 := by omega
  go_enter Try.func46, Try.ntmps46
  go_upto_region 1 with fail
  rw [← HW.out]
  clear HW
  obtain ⟨base, hbase⟩ : ∃ base, base = w0.heap.size := ⟨_, rfl⟩
  have hcb : w.heap.size < base := hbase ▸ HK0.out.lt
  obtain ⟨i50, hj, hj0, hj1, hj2⟩ := info_three info50
  go_wp2_with fail
  go_loopw [7, 8] (fun s7 i wr => ∃ (k : Nat) (A : Option Addr) (c : Nat), k ≤ n ∧ i = .int .i64 k ∧ s7 = .slice A k c ∧ Hid (wr.ownsRow base 50 5 (.slice A k c) k (rowX lo hi (mul N sh) ou sp k)) ∧ Hid (Blk wr w.heap.size 26 #[.int .i64 cp, .int .i64 st, .int .i64 fl, .slice PA n pc]) ∧ Below w.heap.size w wr ∧ base ≤ wr.heap.size) (fun _ i _ => n - (intOf i).toNat)
  case atStart => exact ⟨0, none, 0, Nat.zero_le _, rfl, rfl, Lib.hid (by simpa [rowX] using World.ownsRow_nil _ _ _ _), HK0, HB0.out, Nat.le_of_eq hbase⟩
  case round =>
    obtain ⟨k, A, c, hk, rfl, rfl, HO, HK, hb, hzb⟩ := hrel
    have HBr := Lib.hid hb
    clear hb hbase
    by_cases hlt : k < n
    · have hlt' : (k : Int) < n := by omega
      obtain ⟨b, o, rfl, _, p0, p1, p2, p3, p4⟩ := per_at (HRD.out.below (HBr.out.mono hB)) hlt
      obtain ⟨b', o', e, _, hcs⟩ := HF.out.below (HBr.out.mono hB) (by omega)
      subst e
      have s0 : wr.cell? ⟨b', o' + k, none⟩ = some (.int .i64 (sh k)) := hcs k hlt
      have hw1 : IntKind.i64.wrap ((N : Int) * sh k) = mul N sh k := by
        have h1 := HSH.out k hlt
        have h2 : (N : Int) * sh k ≤ 1048577 * 1048576 := Int.mul_le_mul (by omega) h1.2 h1.1 (by omega)
        have h3 : 0 ≤ (N : Int) * sh k := Int.mul_nonneg (by omega) h1.1
        exact IntWalk.i64_in _ ⟨by omega, by omega⟩
      have HSU := Lib.hid (rowX_succ lo hi (mul N sh) ou sp k)
      have c3 : wr.cell? ⟨w.heap.size, 2 + 1, none⟩ = some (.slice (some ⟨b, o, none⟩) n pc) := HK.out.cell 3
      clear hcs
      obtain ⟨xs1, hxs⟩ : ∃ xs1, xs1 = rowX lo hi (mul N sh) ou sp (k + 1) := ⟨_, rfl⟩
      rw [← hxs] at HSU
      have HXS := Lib.hid hxs
      clear hxs
      generalize rowX lo hi (mul N sh) ou sp k = xs at HO HSU
      generalize lo k = z0 at *
      generalize hi k = z1 at *
      generalize dm k = z2 at *
      generalize ou k = z3 at *
      generalize sp k = z4 at *
      generalize mul N sh k = mk at *
      generalize sh k = zk at *
      go_upto_region 6 with fail
      obtain ⟨e1, he1⟩ : ∃ zz, zz = wr.alloc (.cells #[.int .i64 z0, .int .i64 z1, .int .i64 z2, .int .i64 z3, .int .i64 z4] 50) := ⟨_, rfl⟩
      have HX1 : Hid (Blk e1 wr.heap.size 50 #[.int .i64 z0, .int .i64 z1, .int .i64 z2, .int .i64 z3, .int .i64 z4]) := Lib.hid (he1 ▸ Blk.new _ _ _)
      have HO1 : Hid (e1.ownsRow base 50 5 (.slice A k c) k xs) := Lib.hid (he1 ▸ HO.out.alloc _)
      have HK1 : Hid (Blk e1 w.heap.size 26 #[.int .i64 cp, .int .i64 st, .int .i64 fl, .slice (some ⟨b, o, none⟩) n pc]) := Lib.hid (he1 ▸ HK.out.alloc _)
      have HB1 : Hid (Below w.heap.size w e1) := Lib.hid (he1 ▸ HBr.out.alloc HBr.out.size _)
      have s1 : e1.cell? ⟨b', o' + k, none⟩ = some (.int .i64 zk) := he1 ▸ (World.cell?_alloc_lt wr _ ⟨b', o' + k, none⟩ (World.block_lt_of_cell? wr _ s0)).trans s0
      have HLT : Hid (∀ q, (Value.slice A k c).ownBlock = some q → base ≤ q ∧ q < wr.heap.size) := Lib.hid fun q e => HO.out.lt q e
      rw [← he1]
      have hxlt := HX1.out.lt
      clear he1 HO HK HBr p0 p1 p2 p3 p4 s0 c3
      generalize wr.heap.size = xb at *
      clear wr
      have q2 : e1.cell? ⟨xb, 2, none⟩ = some (.int .i64 z2) := HX1.out.cell 2
      have f2 := HX1.out.frozen 2
      go_upto_region 7 with fail
      obtain ⟨e2, he2⟩ : ∃ zz, zz = e1.setCell ⟨xb, 2, none⟩ (.int .i64 mk) := ⟨_, rfl⟩
      have hxw : w.heap.size ≠ xb := by omega
      have HX2 : Hid (Blk e2 xb 50 #[.int .i64 z0, .int .i64 z1, .int .i64 mk, .int .i64 z3, .int .i64 z4]) := Lib.hid (he2 ▸ HX1.out.set_ 2 (.int .i64 mk))
      have HK2 : Hid (Blk e2 w.heap.size 26 #[.int .i64 cp, .int .i64 st, .int .i64 fl, .slice (some ⟨b, o, none⟩) n pc]) := Lib.hid (he2 ▸ HK1.out.far (p := ⟨xb, 2, none⟩) hxw _)
      have HO2 : Hid (e2.ownsRow base 50 5 (.slice A k c) k xs) := Lib.hid (he2 ▸ HO1.out.kept (grown_set (grown_refl e1 (some xb)) 2 (.int .i64 mk)) (.inr fun e => by have := HLT.out xb e; omega))
      have HB2 : Hid (Below w.heap.size w e2) := Lib.hid (he2 ▸ HB1.out.setCell (p := ⟨xb, 2, none⟩) (show w.heap.size ≤ xb by omega) _)
      have hz2 : xb < e2.heap.size := HX2.out.lt
      rw [← he2]
      clear he2 HX1 HK1 HO1 HB1 q2 f2 s1 hxlt
      clear e1
      have x0 : e2.cell? ⟨xb, 0, none⟩ = some (.int .i64 z0) := HX2.out.cell 0
      have x1 : e2.cell? ⟨xb, 1, none⟩ = some (.int .i64 z1) := HX2.out.cell 1
      have x2 : e2.cell? ⟨xb, 2, none⟩ = some (.int .i64 mk) := HX2.out.cell 2
      have x3 : e2.cell? ⟨xb, 3, none⟩ = some (.int .i64 z3) := HX2.out.cell 3
      have x4 : e2.cell? ⟨xb, 4, none⟩ = some (.int .i64 z4) := HX2.out.cell 4
      go_wp2_with (at_builtin; refine wpList_append_any rfl _ _ 24 rfl base 50 i50 (.agg #[.int .i64 0, .int .i64 0, .int .i64 0, .int .i64 0, .int .i64 0]) 5 40 Try.underlying24 hj hj0 hj1 hj2 rfl (by decide) (.slice A k c) k xs rfl (HO2.out.alloc _) (some ⟨e2.heap.size, 0, none⟩) 1 1 [.int .i64 z0, .int .i64 z1, .int .i64 mk, .int .i64 z3, .int .i64 z4] rfl rfl (fun h => by cases h) (five_new (Blk.new _ _ _)) (five_one _ _ _ _ _) (by unfold maxLen; omega) (by omega) (by simp; omega) ?_; intro va wa hown1 hgrow1 _; rw [HSU.out] at hown1; obtain ⟨Aa, cva, hva⟩ := own_form hown1; subst hva; have HOa := Lib.hid hown1; have HKa := Lib.hid (blk_of_grown (HK2.out.alloc _) hgrow1 (fun e => by have := HLT.out _ e; omega)); have HBa : Hid (Below w.heap.size w wa) := Lib.hid ((HB2.out.alloc HB2.out.size _).grown hgrow1 (by simp; omega) (fun q e => by have := HLT.out q e; omega)); have hza := hgrow1.size; clear hown1 hgrow1)
      have hza2 : base ≤ wa.heap.size := by simp at hza; omega
      go_roundw
      case rel => exact ⟨k + 1, Aa, cva, by omega, by go_num, rfl, by rw [← HXS.out]; exact HOa, HKa, HBa.out, hza2⟩
      case measure => simp [intOf]; omega
    · have hkn : n = k := by omega
      subst hkn
      have c3 : wr.cell? ⟨w.heap.size, 3, none⟩ = some (.slice PA n pc) := HK.out.cell 3
      have c3' : wr.cell? ⟨w.heap.size, 2 + 1, none⟩ = some (.slice PA n pc) := HK.out.cell 3
      have f3 := HK.out.frozen 3
      go_upto_region 9 with fail
      obtain ⟨e2, he2⟩ : ∃ zz, zz = wr.setCell ⟨w.heap.size, 2 + 1, none⟩ (.slice A n c) := ⟨_, rfl⟩
      have HK2 : Hid (Blk e2 w.heap.size 26 #[.int .i64 cp, .int .i64 st, .int .i64 fl, .slice A n c]) := Lib.hid (he2 ▸ HK.out.set_ 3 (.slice A n c))
      have HB2 : Hid (Below w.heap.size w e2) := Lib.hid (he2 ▸ HBr.out.setCell (p := ⟨w.heap.size, 2 + 1, none⟩) (Nat.le_refl _) _)
      have HR2 : Hid (Rd e2 e2.heap.size A (n * 5) (psc lo hi (mul N sh) ou sp)) := Lib.hid (he2 ▸ ((RowP.of_own HO.out).far (p := ⟨w.heap.size, 2 + 1, none⟩) hcb _).rd)
      rw [← he2]
      clear he2 HK HBr HO c3 c3' f3
      have HRB := Lib.hid (Robust_13 (PA := A) (n := n) (pc := c) (cp := cp) (st := st) (fl := fl) e2.heap.size e2 (by omega) (Nat.le_refl _) HR2.out)
      generalize rb cp fl n lo hi (mul N sh) ou sp = F at HFB HRB
      generalize chkE cp st fl n lo hi (mul N sh) ou sp = CE at HFB HRB
      have c0 : e2.cell? ⟨w.heap.size, 0, none⟩ = some (.int .i64 cp) := HK2.out.cell 0
      have c1 : e2.cell? ⟨w.heap.size, 1, none⟩ = some (.int .i64 st) := HK2.out.cell 1
      have c2 : e2.cell? ⟨w.heap.size, 2, none⟩ = some (.int .i64 fl) := HK2.out.cell 2
      have c3 : e2.cell? ⟨w.heap.size, 3, none⟩ = some (.slice A n c) := HK2.out.cell 3
      go_wp2_with fail
      refine HRB.out.mono ?_
      rintro e e3 ⟨⟨A1, k1, m1, rfl, hz1, _⟩, hb⟩
      have HB3 := Lib.hid (HB2.out.trans (hb.mono HB2.out.size))
      have HK3 := Lib.hid (HK2.out.below hb HK2.out.lt)
      have HZ1 := Lib.hid hz1
      clear hb hz1 HB2 HK2 HR2 HRB c0 c1 c2 c3
      have c1 : e3.cell? ⟨w.heap.size, 1, none⟩ = some (.int .i64 st) := HK3.out.cell 1
      go_upto_region 10 with fail
      by_cases h1 : CE = 0
      · obtain ⟨rfl, rfl, hrow⟩ := HZ1.out h1
        obtain ⟨b1, o1, rfl, hb1l, p0, p1⟩ := rng_at hrow (show 0 < n + 1 by omega)
        rw [Nat.zero_mul, Nat.add_zero] at p0 p1
        have HPR : Hid (∀ W, Below e3.heap.size e3 W → W.cell? ⟨w.heap.size, 1, none⟩ = some (.int .i64 st) ∧ W.cell? ⟨b1, o1, none⟩ = some (.int .i64 (F 0).1) ∧ W.cell? ⟨b1, o1 + 1, none⟩ = some (.int .i64 (F 0).2)) := Lib.hid fun W h => ⟨(HK3.out.below h HK3.out.lt).cell 1, (h.cell (p := ⟨b1, o1, none⟩) hb1l).trans p0, (h.cell (p := ⟨b1, o1 + 1, none⟩) hb1l).trans p1⟩
        have HFV : Hid (V = ri3 (F 0).1 st (F 0).2) := Lib.hid (by rw [HFB.out, h1]; simp)
        have h1e : (CE == 0) = true := by simpa using h1
        have hn1 : (0 : Int) < (n : Int) + 1 := by omega
        clear hrow HZ1 HFB h1
        generalize (F 0).1 = R1 at *
        generalize (F 0).2 = R2 at *
        refine wp_region_tail (fun _ => True) (fun w' => w'.cell? ⟨w.heap.size, 1, none⟩ = some (.int .i64 st) ∧ w'.cell? ⟨b1, o1, none⟩ = some (.int .i64 R1) ∧ w'.cell? ⟨b1, o1 + 1, none⟩ = some (.int .i64 R2)) 11 11 (by kernel_rfl) ⟨trivial, c1, p0, p1⟩ (fun hHeld => ?_)
        refine wpAnyT_takeB (i := 0) (v := .int .i64 CE) rfl (by kernel_rfl) (by kernel_rfl) (by kernel_rfl) (by kernel_rfl) (by kernel_rfl) (by decide) (by decide) (fun _ _ _ h => h) (Or.inl ⟨by kernel_rfl, ?_⟩) hHeld ?_
        · intro w' hSw
          obtain ⟨o0, o2, o3⟩ := hSw
          go_simp
        refine wpAnyT_takeB (i := 1) (v := .bool true) rfl (by kernel_rfl) (by kernel_rfl) (by kernel_rfl) (by kernel_rfl) (by kernel_rfl) (by decide) (by decide) (fun _ _ _ h => h) (Or.inl ⟨by kernel_rfl, ?_⟩) hHeld ?_
        · intro w' hSw
          obtain ⟨o0, o2, o3⟩ := hSw
          go_simp
        simp only [Act.put]
        refine wpAnyT_takeB (i := 2) (v := .bool true) rfl (by kernel_rfl) (by kernel_rfl) (by kernel_rfl) (by kernel_rfl) (by kernel_rfl) (by decide) (by decide) (fun _ _ _ h => h) (Or.inl ⟨by kernel_rfl, ?_⟩) hHeld ?_
        · intro w' hSw
          obtain ⟨o0, o2, o3⟩ := hSw
          go_simp
        refine wpAnyT_takeB (i := 3) (v := .slice (some ⟨b1, o1, none⟩) (n + 1) (n + 1)) rfl (by kernel_rfl) (by kernel_rfl) (by kernel_rfl) (by kernel_rfl) (by kernel_rfl) (by decide) (by decide) (fun _ _ _ h => h) (Or.inl ⟨by kernel_rfl, ?_⟩) hHeld ?_
        · intro w' hSw
          obtain ⟨o0, o2, o3⟩ := hSw
          go_simp
        simp only [Act.put]
        refine wpAnyT_takeB (i := 4) (v := .pointer (some ⟨b1, o1, none⟩)) rfl (by kernel_rfl) (by kernel_rfl) (by kernel_rfl) (by kernel_rfl) (by kernel_rfl) (by decide) (by decide) (fun _ _ _ h => h) (Or.inl ⟨by kernel_rfl, ?_⟩) hHeld ?_
        · intro w' hSw
          obtain ⟨o0, o2, o3⟩ := hSw
          go_simp
        refine wpAnyT_takeB (i := 5) (v := .agg #[.int .i64 R1, .int .i64 R2]) rfl (by kernel_rfl) (by kernel_rfl) (by kernel_rfl) (by kernel_rfl) (by kernel_rfl) (by decide) (by decide) (fun _ _ _ h => h) (Or.inl ⟨by kernel_rfl, ?_⟩) hHeld ?_
        · intro w' hSw
          obtain ⟨o0, o2, o3⟩ := hSw
          go_simp
        simp only [Act.put]
        refine wpAnyT_takeB (i := 6) (v := .pointer (some ⟨w.heap.size, 0, none⟩)) rfl (by kernel_rfl) (by kernel_rfl) (by kernel_rfl) (by kernel_rfl) (by kernel_rfl) (by decide) (by decide) (fun _ _ _ h => h) (Or.inl ⟨by kernel_rfl, ?_⟩) hHeld ?_
        · intro w' hSw
          obtain ⟨o0, o2, o3⟩ := hSw
          go_simp
        refine wpAnyT_takeB (i := 7) (v := .pointer (some ⟨w.heap.size, 1, none⟩)) rfl (by kernel_rfl) (by kernel_rfl) (by kernel_rfl) (by kernel_rfl) (by kernel_rfl) (by decide) (by decide) (fun _ _ _ h => h) (Or.inl ⟨by kernel_rfl, ?_⟩) hHeld ?_
        · intro w' hSw
          obtain ⟨o0, o2, o3⟩ := hSw
          go_simp
        simp only [Act.put]
        refine wpAnyT_takeB (i := 8) (v := .int .i64 st) rfl (by kernel_rfl) (by kernel_rfl) (by kernel_rfl) (by kernel_rfl) (by kernel_rfl) (by decide) (by decide) (fun _ _ _ h => h) (Or.inl ⟨by kernel_rfl, ?_⟩) hHeld ?_
        · intro w' hSw
          obtain ⟨o0, o2, o3⟩ := hSw
          go_simp
        simp only [Act.put]
        refine wpAnyT_one (T := fun w' => w'.cell? ⟨w.heap.size, 1, none⟩ = some (.int .i64 st) ∧ w'.cell? ⟨b1, o1, none⟩ = some (.int .i64 R1) ∧ w'.cell? ⟨b1, o1 + 1, none⟩ = some (.int .i64 R2)) (i := 9) (by kernel_rfl) rfl (fun _ h => ⟨fun _ => trivial, fun _ => h⟩) (fun K hK => ?_)
        go_simp
        go_at_call 25
        refine (Has_25 _ _ _ _).mono ?_
        rintro e e4 ⟨rfl, hb4⟩
        have HX4 : Below e3.heap.size e3 e4 := (Below.refl e3.heap.size e3).drew.trans hb4
        refine hK.out _ _ (HPR.out _ HX4) (fun hH => ?_)
        have hHeld := And.intro trivial hH
        clear hK K
        refine wpAnyT_takeB (i := 10) (v := .bool (ri3 R1 st R2)) rfl (by kernel_rfl) (by kernel_rfl) (by kernel_rfl) (by kernel_rfl) (by kernel_rfl) (by decide) (by decide) (fun _ _ _ h => h) (Or.inl ⟨by kernel_rfl, ?_⟩) hHeld ?_
        · intro w' hSw
          obtain ⟨o0, o2, o3⟩ := hSw
          go_simp
        simp only [Act.put]
        refine wpAnyT_one (T := fun _ => True) (i := 11) (by kernel_rfl) rfl (Ob.last (by kernel_rfl) (by kernel_rfl)) (fun K hK => ?_)
        go_simp
        refine hK.out _ _ trivial (fun _ => ?_)
        clear hK K
        refine wpAnyT_done (by kernel_rfl) ?_
        go_wp2_with fail
        go_ret
        exact ⟨ret_bool HFV.out.symm, HB3.out.trans (HX4.mono HB3.out.size)⟩
      · have HFV : Hid (V = false) := Lib.hid (by rw [HFB.out]; simp [h1])
        have h1e : (CE == 0) = false := by simpa using h1
        clear HFB HZ1
        refine wp_region_tail (fun _ => True) (fun _ => True) 11 11 (by kernel_rfl) ⟨trivial, trivial⟩ (fun hHeld => ?_)
        refine wpAnyT_takeB (i := 0) (v := .int .i64 CE) rfl (by kernel_rfl) (by kernel_rfl) (by kernel_rfl) (by kernel_rfl) (by kernel_rfl) (by decide) (by decide) (fun _ _ _ h => h) (Or.inl ⟨by kernel_rfl, ?_⟩) hHeld ?_
        · intro w' hSw
          go_simp
        refine wpAnyT_takeB (i := 1) (v := .bool false) rfl (by kernel_rfl) (by kernel_rfl) (by kernel_rfl) (by kernel_rfl) (by kernel_rfl) (by decide) (by decide) (fun _ _ _ h => h) (Or.inl ⟨by kernel_rfl, ?_⟩) hHeld ?_
        · intro w' hSw
          go_simp
        simp only [Act.put]
        refine wpAnyT_takeB (i := 2) (v := .bool false) rfl (by kernel_rfl) (by kernel_rfl) (by kernel_rfl) (by kernel_rfl) (by kernel_rfl) (by decide) (by decide) (fun _ _ _ h => h) (Or.inl ⟨by kernel_rfl, ?_⟩) hHeld ?_
        · intro w' hSw
          go_simp
        simp only [Act.put]
        refine wpAnyT_takeB (i := 3) (v := undef) rfl (by kernel_rfl) (by kernel_rfl) (by kernel_rfl) (by kernel_rfl) (by kernel_rfl) (by decide) (by decide) (fun _ _ _ h => h) (Or.inr ⟨by kernel_rfl, rfl⟩) hHeld ?_
        simp only [Act.put]
        refine wpAnyT_takeB (i := 4) (v := undef) rfl (by kernel_rfl) (by kernel_rfl) (by kernel_rfl) (by kernel_rfl) (by kernel_rfl) (by decide) (by decide) (fun _ _ _ h => h) (Or.inr ⟨by kernel_rfl, rfl⟩) hHeld ?_
        simp only [Act.put]
        refine wpAnyT_takeB (i := 5) (v := undef) rfl (by kernel_rfl) (by kernel_rfl) (by kernel_rfl) (by kernel_rfl) (by kernel_rfl) (by decide) (by decide) (fun _ _ _ h => h) (Or.inr ⟨by kernel_rfl, rfl⟩) hHeld ?_
        simp only [Act.put]
        refine wpAnyT_takeB (i := 6) (v := undef) rfl (by kernel_rfl) (by kernel_rfl) (by kernel_rfl) (by kernel_rfl) (by kernel_rfl) (by decide) (by decide) (fun _ _ _ h => h) (Or.inr ⟨by kernel_rfl, rfl⟩) hHeld ?_
        simp only [Act.put]
        refine wpAnyT_takeB (i := 7) (v := undef) rfl (by kernel_rfl) (by kernel_rfl) (by kernel_rfl) (by kernel_rfl) (by kernel_rfl) (by decide) (by decide) (fun _ _ _ h => h) (Or.inr ⟨by kernel_rfl, rfl⟩) hHeld ?_
        simp only [Act.put]
        refine wpAnyT_takeB (i := 8) (v := undef) rfl (by kernel_rfl) (by kernel_rfl) (by kernel_rfl) (by kernel_rfl) (by kernel_rfl) (by decide) (by decide) (fun _ _ _ h => h) (Or.inr ⟨by kernel_rfl, rfl⟩) hHeld ?_
        simp only [Act.put]
        refine wpAnyT_takeB (i := 9) (v := undef) rfl (by kernel_rfl) (by kernel_rfl) (by kernel_rfl) (by kernel_rfl) (by kernel_rfl) (by decide) (by decide) (fun _ _ _ h => h) (Or.inr ⟨by kernel_rfl, rfl⟩) hHeld ?_
        simp only [Act.put]
        refine wpAnyT_takeB (i := 10) (v := .bool false) rfl (by kernel_rfl) (by kernel_rfl) (by kernel_rfl) (by kernel_rfl) (by kernel_rfl) (by decide) (by decide) (fun _ _ _ h => h) (Or.inl ⟨by kernel_rfl, ?_⟩) hHeld ?_
        · intro w' hSw
          go_simp
        simp only [Act.put]
        refine wpAnyT_one (T := fun _ => True) (i := 11) (by kernel_rfl) rfl (Ob.last (by kernel_rfl) (by kernel_rfl)) (fun K hK => ?_)
        go_simp
        refine hK.out _ _ trivial (fun _ => ?_)
        clear hK K
        refine wpAnyT_done (by kernel_rfl) ?_
        go_wp2_with fail
        go_ret
        exact ⟨ret_bool HFV.out.symm, HB3.out.drew⟩
end Go.Proofs.Ytnmocdfogdcliaa
