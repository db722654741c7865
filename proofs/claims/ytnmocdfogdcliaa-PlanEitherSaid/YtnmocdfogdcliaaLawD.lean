/- Contract of the law PlanEither: it returns true for every course and all choices. -/
import Derived.Test.YtnmocdfogdcliaaSane
import Derived.Test.YtnmocdfogdcliaaOpen2
import Derived.Test.YtnmocdfogdcliaaPick
import Derived.Test.YtnmocdfogdcliaaKeep2
import Derived.Deep.CutRange
namespace Go.Proofs.Ytnmocdfogdcliaa
open Go.RowKit

set_option maxRecDepth 100000 in
set_option maxHeartbeats 8000000 in
theorem either_6 {PA : Option Addr} {n pc : Nat} {cp st fl : Int} {lo hi dm ou sp : Nat → Int} (B um uc : Nat) (UA : Option Addr) (u : Nat → Int) (w : World) (hn : n ≤ 9223372036854775807) (hu : ∀ j, 0 ≤ u j ∧ u j ≤ 4294967295) (hB : B ≤ w.heap.size) (hr : Rd w B PA (n * 5) (psc lo hi dm ou sp)) (hf : Rd w B UA um (fun j => .int .u32 (u j))) :
    Calls Try.prog 6 #[(.agg #[.int .i64 cp, .int .i64 st, .int .i64 fl, .slice PA n pc]), .slice UA um uc] w fun e w' => e = .returned (.bool true) ∧ Below w.heap.size w w' := by
  obtain ⟨w0, hw0⟩ : ∃ zz, zz = w.alloc (.cells #[.int .i64 cp, .int .i64 st, .int .i64 fl, .slice PA n pc] 26) := ⟨_, rfl⟩
  have HK0 : Hid (Blk w0 w.heap.size 26 #[.int .i64 cp, .int .i64 st, .int .i64 fl, .slice PA n pc]) := Lib.hid (hw0 ▸ Blk.new _ _ _)
  have HB0 : Hid (Below w.heap.size w w0) := Lib.hid (hw0 ▸ below_alloc _ _)
  have HW := Lib.hid hw0
  have HRD := Lib.hid hr
  have H12 : Hid (∀ W, Below w.heap.size w W → Calls Try.prog 12 #[(.agg #[.int .i64 cp, .int .i64 st, .int .i64 fl, .slice PA n pc])] W fun e w' => RobR (chkE cp st fl n lo hi dm ou sp) n (rb cp fl n lo hi dm ou sp) e w' ∧ Below W.heap.size W w') := Lib.hid fun W h => Robust_12 B W hn (by have := h.size; omega) (hr.below (h.mono hB))
  have H14 : Hid (∀ W, Below w.heap.size w W → Calls Try.prog 14 #[(.agg #[.int .i64 cp, .int .i64 st, .int .i64 fl, .slice PA n pc])] W fun e w' => e = .returned (.int .i64 (chkE cp st fl n lo hi dm ou sp)) ∧ Below W.heap.size W w') := Lib.hid fun W h => Check_14 B W hn (by have := h.size; omega) (hr.below (h.mono hB))
  have H27 : Hid (∀ W (i : Nat), Below w.heap.size w W → Calls Try.prog 27 #[.slice UA um uc, .int .i64 i] W fun e w' => e = .returned (.int .u32 (atV u um i)) ∧ W = w') := Lib.hid fun W i h => at_27 UA um uc B i u W (hf.below (h.mono hB))
  have HAT : Hid (∀ i, 0 ≤ atV u um i ∧ atV u um i ≤ 4294967295) := Lib.hid fun i => by
    unfold atV
    split
    · exact hu i
    · omega
  have HREL : Hid ((chkE cp st fl n lo hi dm ou sp) = 0 → ∀ k x, k < n → 0 ≤ x ∧ x ≤ cp → ri3 (rb cp fl n lo hi dm ou sp k).1 x (rb cp fl n lo hi dm ou sp k).2 = true → ∃ r, (dm k ≤ r ∧ r ≤ ou k ∧ r ≤ x) ∧
      (∀ W, Below w.heap.size w W → Calls Try.prog 17 #[(.agg #[.int .i64 cp, .int .i64 st, .int .i64 fl, .slice PA n pc]), .int .i64 (k : Nat), .int .i64 x] W fun e w' => e = .returned (.tuple #[.int .i64 r, .int .i64 0]) ∧ Below W.heap.size W w') ∧
      ∀ q, lo k ≤ q ∧ q ≤ hi k → ∃ y s, s ≤ sp k ∧ ri3 (rb cp fl n lo hi dm ou sp (k + 1)).1 y (rb cp fl n lo hi dm ou sp (k + 1)).2 = true ∧ (0 ≤ y ∧ y ≤ cp) ∧
        ∀ W, Below w.heap.size w W → Calls Try.prog 19 #[(.agg #[.int .i64 cp, .int .i64 st, .int .i64 fl, .slice PA n pc]), .int .i64 (k : Nat), .int .i64 x, .int .i64 r, .int .i64 q] W fun e w' => e = .returned (.tuple #[.int .i64 y, .int .i64 s, .bool true, .int .i64 0]) ∧ Below W.heap.size W w') := Lib.hid fun hc k x hk hx h => by
    have hg := good_of hc
    obtain ⟨e1, e2⟩ := rel_ok hc hk hx h
    obtain ⟨⟨g1, g2, g3⟩, ⟨g4, g5, g6⟩, _⟩ := hg.2.2.2 k hk
    have hcp := hg.2.1
    refine ⟨relV cp st fl n lo hi dm ou sp (k : Int) x, ?_, fun W hW => ?_, fun q hq => ?_⟩
    · exact (keep_ok (q := lo k) hg hk h ⟨Int.le_refl _, g2⟩ e2).1
    · have := Release_17 (pc := pc) (PA := PA) (cp := cp) (st := st) (fl := fl) (lo := lo) (hi := hi) (dm := dm) (ou := ou) (sp := sp) B (k : Int) x W hn (by have := hW.size; omega) (hr.below (hW.mono hB))
      rw [e1] at this
      exact this
    · obtain ⟨k1, k2, k3, k4⟩ := keep_ok (q := q) hg hk h hq e2
      refine ⟨_, _, k2, k3, k4, fun W hW => ?_⟩
      have := Next_19 (pc := pc) (PA := PA) (cp := cp) (st := st) (fl := fl) (lo := lo) (hi := hi) (dm := dm) (ou := ou) (sp := sp) B (k : Int) x (relV cp st fl n lo hi dm ou sp (k : Int) x) q W hn (by have := hW.size; omega) (hr.below (hW.mono hB))
      rw [nx_ok hc hk hx ⟨by omega, by omega⟩ ⟨by omega, by omega⟩ k1] at this
      have ho : nxO cp sp k x (relV cp st fl n lo hi dm ou sp (k : Int) x) q = true := by unfold nxO; simpa using k2
      rw [ho] at this
      exact this
  have HSPO : Hid ((chkE cp st fl n lo hi dm ou sp) = 0 → ∀ k x r, k < n → 0 ≤ x ∧ x ≤ cp → (dm k ≤ r ∧ r ≤ ou k ∧ r ≤ x) → ri3 (rb cp fl n lo hi dm ou sp k).1 x (rb cp fl n lo hi dm ou sp k).2 = false → ∃ q, (lo k ≤ q ∧ q ≤ hi k) ∧
      (∀ W, Below w.heap.size w W → Calls Try.prog 21 #[(.agg #[.int .i64 cp, .int .i64 st, .int .i64 fl, .slice PA n pc]), .int .i64 (k : Nat), .int .i64 x, .int .i64 r] W fun e w' => e = .returned (.tuple #[.int .i64 q, .int .i64 0]) ∧ Below W.heap.size W w') ∧
      ∃ (o : Bool) (y s : Int), (o = true → ri3 (rb cp fl n lo hi dm ou sp (k + 1)).1 y (rb cp fl n lo hi dm ou sp (k + 1)).2 = false ∧ 0 ≤ y ∧ y ≤ cp) ∧
        ∀ W, Below w.heap.size w W → Calls Try.prog 19 #[(.agg #[.int .i64 cp, .int .i64 st, .int .i64 fl, .slice PA n pc]), .int .i64 (k : Nat), .int .i64 x, .int .i64 r, .int .i64 q] W fun e w' => e = .returned (.tuple #[.int .i64 y, .int .i64 s, .bool o, .int .i64 0]) ∧ Below W.heap.size W w') := Lib.hid fun hc k x r hk hx ha h => by
    have hg := good_of hc
    obtain ⟨⟨g1, g2, g3⟩, ⟨g4, g5, g6⟩, _⟩ := hg.2.2.2 k hk
    have hcp := hg.2.1
    obtain ⟨e1, e2⟩ := sp_ok (r := r) hc hk hx ⟨by omega, by omega⟩ ha h
    have hl := fun ho => lose_ok (r := r) hg hk h hx.2 ha ho
    obtain ⟨q, hq⟩ : ∃ q, q = if spK cp fl n lo hi dm ou sp k x r = true then hi k else lo k := ⟨_, rfl⟩
    rw [← hq] at e2 hl
    have hqr : lo k ≤ q ∧ q ≤ hi k := by rw [hq]; split <;> omega
    refine ⟨q, hqr, fun W hW => ?_, nxO cp sp k x r q, (if nxO cp sp k x r q = true then nxN cp x r q else 0), (if nxO cp sp k x r q = true then nxS cp x r q else 0), fun ho => ?_, fun W hW => ?_⟩
    · have := Spoil_21 (pc := pc) (PA := PA) (cp := cp) (st := st) (fl := fl) (lo := lo) (hi := hi) (dm := dm) (ou := ou) (sp := sp) B (k : Int) x r W hn (by have := hW.size; omega) (hr.below (hW.mono hB))
      rw [e1, e2] at this
      exact this
    · rw [if_pos ho]
      refine ⟨hl ho, ?_⟩
      unfold nxN
      omega
    · have := Next_19 (pc := pc) (PA := PA) (cp := cp) (st := st) (fl := fl) (lo := lo) (hi := hi) (dm := dm) (ou := ou) (sp := sp) B (k : Int) x r q W hn (by have := hW.size; omega) (hr.below (hW.mono hB))
      rw [nx_ok hc hk hx ⟨by omega, by omega⟩ ⟨by omega, by omega⟩ ha] at this
      exact this
  have HG : Hid ((chkE cp st fl n lo hi dm ou sp) = 0 → Good cp fl n lo hi dm ou sp ∧ 0 ≤ st ∧ st ≤ cp) := Lib.hid fun h => ⟨good_of h, (chk_zero h).2.1.1, (chk_zero h).2.1.2.1⟩
  have HEND : Hid (rb cp fl n lo hi dm ou sp n = (fl, cp)) := Lib.hid rb_end
  clear hw0 hr hn hf hu
  generalize rb cp fl n lo hi dm ou sp = F at *
  generalize (chkE cp st fl n lo hi dm ou sp) = CE at H12 H14 HREL HSPO HG
  go_enter Try.func6, Try.ntmps6
  go_upto_region 1 with fail
  rw [← HW.out]
  clear HW
  go_wp2_with fail
  refine (sane_11 _).mono ?_
  rintro e w1 ⟨rfl, hb⟩
  have HB1 := Lib.hid (HB0.out.trans (hb.mono HB0.out.size))
  have HK1 := Lib.hid (HK0.out.below hb HK0.out.lt)
  clear hb HB0 HK0
  have c0 : w1.cell? ⟨w.heap.size, 0, none⟩ = some (.int .i64 cp) := HK1.out.cell 0
  have c1 : w1.cell? ⟨w.heap.size, 1, none⟩ = some (.int .i64 st) := HK1.out.cell 1
  have c2 : w1.cell? ⟨w.heap.size, 2, none⟩ = some (.int .i64 fl) := HK1.out.cell 2
  have c3 : w1.cell? ⟨w.heap.size, 3, none⟩ = some (.slice PA n pc) := HK1.out.cell 3
  go_wp2_with fail
  refine (H12.out _ HB1.out).mono ?_
  rintro e w2 ⟨⟨A1, k1, m1, rfl, hz1, hn1⟩, hb⟩
  have HB2 := Lib.hid (HB1.out.trans (hb.mono HB1.out.size))
  have HK2 := Lib.hid (HK1.out.below hb HK1.out.lt)
  have HZ1 := Lib.hid hz1
  have HN1 := Lib.hid hn1
  clear hb HB1 HK1 hz1 hn1 c0 c1 c2 c3
  have c0 : w2.cell? ⟨w.heap.size, 0, none⟩ = some (.int .i64 cp) := HK2.out.cell 0
  have c1 : w2.cell? ⟨w.heap.size, 1, none⟩ = some (.int .i64 st) := HK2.out.cell 1
  have c2 : w2.cell? ⟨w.heap.size, 2, none⟩ = some (.int .i64 fl) := HK2.out.cell 2
  have c3 : w2.cell? ⟨w.heap.size, 3, none⟩ = some (.slice PA n pc) := HK2.out.cell 3
  have c3' : w2.cell? ⟨w.heap.size, 2 + 1, none⟩ = some (.slice PA n pc) := HK2.out.cell 3
  by_cases hCE : ¬ CE = 0
  · obtain ⟨rfl, rfl, rfl⟩ := HN1.out hCE
    have h1d : (CE == 0) = false := by simpa using hCE
    have hce : (CE == CE) = true := by simp
    go_wp2_with fail
    refine (H14.out _ HB2.out).mono ?_
    rintro e w3 ⟨rfl, hb⟩
    have HB3 := Lib.hid (HB2.out.trans (hb.mono HB2.out.size))
    go_wp2_with fail
    go_ret
    exact ⟨rfl, HB3.out⟩
  have hCE : CE = 0 := by omega
  subst hCE
  obtain ⟨rfl, rfl, hrow⟩ := HZ1.out rfl
  have HREL2 := Lib.hid (HREL.out rfl)
  have HSPO2 := Lib.hid (HSPO.out rfl)
  obtain ⟨hg, hst⟩ := HG.out rfl
  have h64 : n ≤ 64 := hg.1
  have HGG := Lib.hid hg
  have HROW := Lib.hid hrow
  clear HZ1 HN1 HG H12 H14 hg HREL HSPO
  have hw1 : IntKind.i64.wrap ((n : Int) + 1) = n + 1 := IntWalk.i64_in _ ⟨by omega, by omega⟩
  obtain ⟨b1, o1, rfl, _, p0, p1⟩ := rng_at hrow (show 0 < n + 1 by omega)
  rw [Nat.zero_mul, Nat.add_zero] at p0 p1
  clear hrow
  obtain ⟨KP, hKP⟩ : ∃ KP, KP = ri3 (F 0).1 st (F 0).2 := ⟨_, rfl⟩
  have HKP := Lib.hid hKP
  have hn1 : (0 : Int) < (n : Int) + 1 := by omega
  go_wp2_with fail
  refine (Has_25 _ _ _ _).mono ?_
  rintro e w3 ⟨rfl, hb⟩
  have HB3 := Lib.hid (HB2.out.trans (hb.mono HB2.out.size))
  have HK3 := Lib.hid (HK2.out.below hb HK2.out.lt)
  have HROW3 := Lib.hid (HROW.out.below hb)
  have hz23 := hb.size
  rw [← hKP]
  clear hb HB2 HK2 HROW p0 p1 c0 c1 c2 c3 c3' hKP
  have hz3 := HB3.out.size
  have c3 : w3.cell? ⟨w.heap.size, 2 + 1, none⟩ = some (.slice PA n pc) := HK3.out.cell 3
  have c3' : w3.cell? ⟨w.heap.size, 3, none⟩ = some (.slice PA n pc) := HK3.out.cell 3
  go_wp2_with fail
  clear c3 c3'
  go_loopw [7, 61] (fun s7 i wr => ∃ (k : Nat) (x : Int), k ≤ n ∧ i = .int .i64 k ∧ s7 = .int .i64 x ∧ Hid (ri3 (F k).1 x (F k).2 = KP) ∧ (0 ≤ x ∧ x ≤ cp) ∧ Below w3.heap.size w3 wr) (fun _ i _ => n - (intOf i).toNat)
  case atStart => exact ⟨0, st, Nat.zero_le _, rfl, rfl, Lib.hid HKP.out.symm, hst, Below.refl _ _⟩
  case round =>
    obtain ⟨k, x, hk, rfl, rfl, HX, hx, hb⟩ := hrel
    have HL := Lib.hid hb
    have HBr := Lib.hid (HB3.out.trans (hb.mono hz3))
    have HKr := Lib.hid (HK3.out.below hb HK3.out.lt)
    have HRr := Lib.hid (HROW3.out.below (hb.mono hz23))
    clear hb
    by_cases hlt : k < n
    · have hlt' : (k : Int) < n := by omega
      obtain ⟨⟨g1, g2, g3⟩, ⟨g4, g5, g6⟩, g7, g8⟩ := HGG.out.2.2.2 k hlt
      have hcp := HGG.out.2.1
      obtain ⟨b, o, rfl, _, q0, q1, q2, q3, q4⟩ := per_at (HRD.out.below (HBr.out.mono hB)) hlt
      obtain ⟨b1', o1', e', _, r0, r1⟩ := rng_at HRr.out (show k < n + 1 by omega)
      injection e' with e'
      injection e' with e1 e2
      subst e1 e2
      have hk1 : (k : Int) < (n : Int) + 1 := by omega
      have hk2 : k < n + 1 := by omega
      have HR1 := Lib.hid (HREL2.out k x hlt hx)
      have HS1 := Lib.hid (fun r => HSPO2.out k x r hlt hx)
      have HAK := HAT.out k
      have H27k := Lib.hid (fun W => H27.out W k)
      generalize atV u um k = av at HAK H27k
      generalize (F k).1 = R1 at *
      generalize (F k).2 = R2 at *
      generalize lo k = z0 at *
      generalize hi k = z1 at *
      generalize dm k = z2 at *
      generalize ou k = z3 at *
      generalize sp k = z4 at *
      go_upto_region 13 with fail
      obtain ⟨e1, he1⟩ : ∃ zz, zz = wr.alloc (.cells #[.int .i64 z0, .int .i64 z1, .int .i64 z2, .int .i64 z3, .int .i64 z4] 50) := ⟨_, rfl⟩
      have HP1 : Hid (Blk e1 wr.heap.size 50 #[.int .i64 z0, .int .i64 z1, .int .i64 z2, .int .i64 z3, .int .i64 z4]) := Lib.hid (he1 ▸ Blk.new _ _ _)
      have HL1 : Hid (Below w3.heap.size w3 e1) := Lib.hid (he1 ▸ HL.out.alloc HL.out.size _)
      have HC1 : Hid (Blk e1 w.heap.size 26 #[.int .i64 cp, .int .i64 st, .int .i64 fl, .slice (some ⟨b, o, none⟩) n pc]) := Lib.hid (he1 ▸ HKr.out.alloc _)
      have p0 : e1.cell? ⟨b1, o1 + k * 2, none⟩ = some (.int .i64 R1) := he1 ▸ (World.cell?_alloc_lt wr _ ⟨b1, o1 + k * 2, none⟩ (World.block_lt_of_cell? wr _ r0)).trans r0
      have p1 : e1.cell? ⟨b1, o1 + k * 2 + 1, none⟩ = some (.int .i64 R2) := he1 ▸ (World.cell?_alloc_lt wr _ ⟨b1, o1 + k * 2 + 1, none⟩ (World.block_lt_of_cell? wr _ r1)).trans r1
      rw [← he1]
      clear he1 HL HBr HKr HRr q0 q1 q2 q3 q4 r0 r1
      generalize wr.heap.size = xb at *
      clear wr
      go_wp2_with fail
      refine (Has_25 _ _ _ _).mono ?_
      rintro e e2 ⟨rfl, hb⟩
      have HP2 := Lib.hid (HP1.out.below hb HP1.out.lt)
      have HC2 := Lib.hid (HC1.out.below hb HC1.out.lt)
      have HL2 := Lib.hid (HL1.out.trans (hb.mono HL1.out.size))
      clear hb HP1 HC1 HL1 p0 p1
      clear e1
      rw [HX.out]
      have HB2 : Hid (Below w.heap.size w e2) := Lib.hid (HB3.out.trans (HL2.out.mono hz3))
      have hzl := HL2.out.size
      have hkk : (KP != KP) = false := by simp
      have c0 : e2.cell? ⟨w.heap.size, 0, none⟩ = some (.int .i64 cp) := HC2.out.cell 0
      have c1 : e2.cell? ⟨w.heap.size, 1, none⟩ = some (.int .i64 st) := HC2.out.cell 1
      have c2 : e2.cell? ⟨w.heap.size, 2, none⟩ = some (.int .i64 fl) := HC2.out.cell 2
      have c3 : e2.cell? ⟨w.heap.size, 3, none⟩ = some (.slice (some ⟨b, o, none⟩) n pc) := HC2.out.cell 3
      have x1 : e2.cell? ⟨xb, 1 + 1, none⟩ = some (.int .i64 z2) := HP2.out.cell 2
      have x2 : e2.cell? ⟨xb, 2, none⟩ = some (.int .i64 z2) := HP2.out.cell 2
      have x3 : e2.cell? ⟨xb, 3, none⟩ = some (.int .i64 z3) := HP2.out.cell 3
      have x3' : e2.cell? ⟨xb, 2 + 1, none⟩ = some (.int .i64 z3) := HP2.out.cell 3
      cases KP
      case true =>
        obtain ⟨r, hra, h17, h19⟩ := HR1.out HX.out
        have H19 := Lib.hid h19
        clear h19
        obtain ⟨ra1, ra2, ra3⟩ := hra
        go_upto_region 16 with fail
        go_wp2_with fail
        refine (h17 _ HB2.out).mono ?_
        rintro e e3 ⟨rfl, hb⟩
        have HP3 := Lib.hid (HP2.out.below hb HP2.out.lt)
        have HC3 := Lib.hid (HC2.out.below hb HC2.out.lt)
        have HL3 := Lib.hid (HL2.out.trans (hb.mono hzl))
        have HB4 := Lib.hid (HB2.out.trans (hb.mono HB2.out.size))
        clear hb HP2 HC2 HL2 HB2 h17 c0 c1 c2 c3 x1 x2 x3 x3' HS1 HR1
        clear hzl
        clear e2
        have HPR : Hid (∀ W, Below e3.heap.size e3 W → (fun w' : World => w'.cell? ⟨w.heap.size, 0, none⟩ = some (.int .i64 cp) ∧ w'.cell? ⟨w.heap.size, 1, none⟩ = some (.int .i64 st) ∧ w'.cell? ⟨w.heap.size, 2, none⟩ = some (.int .i64 fl) ∧ w'.cell? ⟨w.heap.size, 3, none⟩ = some (.slice (some ⟨b, o, none⟩) n pc) ∧ w'.cell? ⟨xb, 0, none⟩ = some (.int .i64 z0) ∧ w'.cell? ⟨xb, 1, none⟩ = some (.int .i64 z1) ∧ w'.cell? ⟨xb, 2, none⟩ = some (.int .i64 z2)) W) := Lib.hid fun W h => by
          have y := HC3.out.below h HC3.out.lt
          have z := HP3.out.below h HP3.out.lt
          exact ⟨y.cell 0, y.cell 1, y.cell 2, y.cell 3, z.cell 0, z.cell 1, z.cell 2⟩
        have hz3' := HL3.out.size
        go_upto_region 17 with fail
        go_cut [13, 14, 15, 16] from 75 to 183 (fun s13 s14 s15 s16 wc => ∃ y s, s13 = .int .i64 y ∧ s14 = .int .i64 s ∧ s15 = .bool true ∧ s16 = .int .i64 0 ∧ s ≤ z4 ∧ Hid (ri3 (F (k + 1)).1 y (F (k + 1)).2 = true) ∧ (0 ≤ y ∧ y ≤ cp) ∧ Hid (Below e3.heap.size e3 wc))
        case first =>
          refine wp_region_tail (fun _ => True) (fun w' => w'.cell? ⟨w.heap.size, 0, none⟩ = some (.int .i64 cp) ∧ w'.cell? ⟨w.heap.size, 1, none⟩ = some (.int .i64 st) ∧ w'.cell? ⟨w.heap.size, 2, none⟩ = some (.int .i64 fl) ∧ w'.cell? ⟨w.heap.size, 3, none⟩ = some (.slice (some ⟨b, o, none⟩) n pc) ∧ w'.cell? ⟨xb, 0, none⟩ = some (.int .i64 z0) ∧ w'.cell? ⟨xb, 1, none⟩ = some (.int .i64 z1) ∧ w'.cell? ⟨xb, 2, none⟩ = some (.int .i64 z2)) 19 19 (by kernel_rfl) ⟨trivial, HPR.out _ (Below.refl _ _).drew⟩ (fun hHeld => ?_)
          refine wpAnyT_takeB (i := 0) (v := .agg #[.int .i64 cp, .int .i64 st, .int .i64 fl, .slice (some ⟨b, o, none⟩) n pc]) rfl (by kernel_rfl) (by kernel_rfl) (by kernel_rfl) (by kernel_rfl) (by kernel_rfl) (by decide) (by decide) (fun _ _ _ h => h) (Or.inl ⟨by kernel_rfl, ?_⟩) hHeld ?_
          · intro w' hSw
            obtain ⟨o0, o1, o2, o3, o4, o5, o6⟩ := hSw
            go_simp
          refine wpAnyT_takeB (i := 1) (v := .int .i64 k) rfl (by kernel_rfl) (by kernel_rfl) (by kernel_rfl) (by kernel_rfl) (by kernel_rfl) (by decide) (by decide) (fun _ _ _ h => h) (Or.inl ⟨by kernel_rfl, ?_⟩) hHeld ?_
          · intro w' hSw
            obtain ⟨o0, o1, o2, o3, o4, o5, o6⟩ := hSw
            go_simp
          simp only [Act.put]
          refine wpAnyT_takeB (i := 2) (v := .int .i64 x) rfl (by kernel_rfl) (by kernel_rfl) (by kernel_rfl) (by kernel_rfl) (by kernel_rfl) (by decide) (by decide) (fun _ _ _ h => h) (Or.inl ⟨by kernel_rfl, ?_⟩) hHeld ?_
          · intro w' hSw
            obtain ⟨o0, o1, o2, o3, o4, o5, o6⟩ := hSw
            go_simp
          refine wpAnyT_takeB (i := 3) (v := .int .i64 r) rfl (by kernel_rfl) (by kernel_rfl) (by kernel_rfl) (by kernel_rfl) (by kernel_rfl) (by decide) (by decide) (fun _ _ _ h => h) (Or.inl ⟨by kernel_rfl, ?_⟩) hHeld ?_
          · intro w' hSw
            obtain ⟨o0, o1, o2, o3, o4, o5, o6⟩ := hSw
            go_simp
          simp only [Act.put]
          refine wpAnyT_takeB (i := 4) (v := .pointer (some ⟨xb, 0, none⟩)) rfl (by kernel_rfl) (by kernel_rfl) (by kernel_rfl) (by kernel_rfl) (by kernel_rfl) (by decide) (by decide) (fun _ _ _ h => h) (Or.inl ⟨by kernel_rfl, ?_⟩) hHeld ?_
          · intro w' hSw
            obtain ⟨o0, o1, o2, o3, o4, o5, o6⟩ := hSw
            go_simp
          refine wpAnyT_takeB (i := 5) (v := .agg #[.int .i64 z0, .int .i64 z1]) rfl (by kernel_rfl) (by kernel_rfl) (by kernel_rfl) (by kernel_rfl) (by kernel_rfl) (by decide) (by decide) (fun _ _ _ h => h) (Or.inl ⟨by kernel_rfl, ?_⟩) hHeld ?_
          · intro w' hSw
            obtain ⟨o0, o1, o2, o3, o4, o5, o6⟩ := hSw
            go_simp
          simp only [Act.put]
          refine wpAnyT_takeB (i := 6) (v := .slice UA um uc) rfl (by kernel_rfl) (by kernel_rfl) (by kernel_rfl) (by kernel_rfl) (by kernel_rfl) (by decide) (by decide) (fun _ _ _ h => h) (Or.inl ⟨by kernel_rfl, ?_⟩) hHeld ?_
          · intro w' hSw
            obtain ⟨o0, o1, o2, o3, o4, o5, o6⟩ := hSw
            go_simp
          refine wpAnyT_takeB (i := 7) (v := .int .i64 k) rfl (by kernel_rfl) (by kernel_rfl) (by kernel_rfl) (by kernel_rfl) (by kernel_rfl) (by decide) (by decide) (fun _ _ _ h => h) (Or.inl ⟨by kernel_rfl, ?_⟩) hHeld ?_
          · intro w' hSw
            obtain ⟨o0, o1, o2, o3, o4, o5, o6⟩ := hSw
            go_simp
          simp only [Act.put]
          refine wpAnyT_one (T := fun w' => w'.cell? ⟨w.heap.size, 0, none⟩ = some (.int .i64 cp) ∧ w'.cell? ⟨w.heap.size, 1, none⟩ = some (.int .i64 st) ∧ w'.cell? ⟨w.heap.size, 2, none⟩ = some (.int .i64 fl) ∧ w'.cell? ⟨w.heap.size, 3, none⟩ = some (.slice (some ⟨b, o, none⟩) n pc) ∧ w'.cell? ⟨xb, 0, none⟩ = some (.int .i64 z0) ∧ w'.cell? ⟨xb, 1, none⟩ = some (.int .i64 z1) ∧ w'.cell? ⟨xb, 2, none⟩ = some (.int .i64 z2)) (i := 8) (by kernel_rfl) rfl (fun _ h => ⟨fun _ => trivial, fun _ => h⟩) (fun K hK => ?_)
          go_simp
          go_at_call 27
          refine (H27k.out e3.drew HB4.out.drew).mono ?_
          rintro e d1 ⟨rfl, hd1⟩
          have HD1 : Below e3.heap.size e3 d1 := hd1 ▸ (Below.refl _ _).drew
          refine hK.out _ _ (HPR.out _ HD1) (fun hH => ?_)
          have hHeld := And.intro trivial hH
          clear hK K
          refine wpAnyT_one (T := fun w' => w'.cell? ⟨w.heap.size, 0, none⟩ = some (.int .i64 cp) ∧ w'.cell? ⟨w.heap.size, 1, none⟩ = some (.int .i64 st) ∧ w'.cell? ⟨w.heap.size, 2, none⟩ = some (.int .i64 fl) ∧ w'.cell? ⟨w.heap.size, 3, none⟩ = some (.slice (some ⟨b, o, none⟩) n pc) ∧ w'.cell? ⟨xb, 0, none⟩ = some (.int .i64 z0) ∧ w'.cell? ⟨xb, 1, none⟩ = some (.int .i64 z1) ∧ w'.cell? ⟨xb, 2, none⟩ = some (.int .i64 z2)) (i := 9) (by kernel_rfl) rfl (fun _ h => ⟨fun _ => trivial, fun _ => h⟩) (fun K hK => ?_)
          go_simp
          go_at_call 26
          refine (pick_26 z0 z1 av d1 ⟨g1, g2, g3⟩ HAK).mono ?_
          rintro e d2 ⟨q, rfl, hq, -, hd2⟩
          have HD2 : Below e3.heap.size e3 d2 := HD1.trans (hd2.mono HD1.size)
          obtain ⟨y, s, hs, hy, hyc, h19⟩ := H19.out q hq
          refine hK.out _ _ (HPR.out _ HD2) (fun hH => ?_)
          have hHeld := And.intro trivial hH
          clear hK K
          refine wpAnyT_one (T := fun w' => w'.cell? ⟨w.heap.size, 0, none⟩ = some (.int .i64 cp) ∧ w'.cell? ⟨w.heap.size, 1, none⟩ = some (.int .i64 st) ∧ w'.cell? ⟨w.heap.size, 2, none⟩ = some (.int .i64 fl) ∧ w'.cell? ⟨w.heap.size, 3, none⟩ = some (.slice (some ⟨b, o, none⟩) n pc) ∧ w'.cell? ⟨xb, 0, none⟩ = some (.int .i64 z0) ∧ w'.cell? ⟨xb, 1, none⟩ = some (.int .i64 z1) ∧ w'.cell? ⟨xb, 2, none⟩ = some (.int .i64 z2)) (i := 10) (by kernel_rfl) rfl (fun _ h => ⟨fun _ => trivial, fun _ => h⟩) (fun K hK => ?_)
          go_simp
          go_at_call 19
          refine (h19 d2 (HB4.out.trans (HD2.mono HB4.out.size))).mono ?_
          rintro e d3 ⟨rfl, hd3⟩
          have HD3 : Below e3.heap.size e3 d3 := HD2.trans (hd3.mono HD2.size)
          refine hK.out _ _ (HPR.out _ HD3) (fun hH => ?_)
          have hHeld := And.intro trivial hH
          clear hK K
          refine wpAnyT_takeB (i := 11) (v := .tuple #[.int .i64 y, .int .i64 s, .bool true, .int .i64 0]) rfl (by kernel_rfl) (by kernel_rfl) (by kernel_rfl) (by kernel_rfl) (by kernel_rfl) (by decide) (by decide) (fun _ _ _ h => h) (Or.inl ⟨by kernel_rfl, ?_⟩) hHeld ?_
          · intro w' hSw
            obtain ⟨o0, o1, o2, o3, o4, o5, o6⟩ := hSw
            go_simp
          simp only [Act.put]
          refine wpAnyT_takeB (i := 12) (v := .int .i64 y) rfl (by kernel_rfl) (by kernel_rfl) (by kernel_rfl) (by kernel_rfl) (by kernel_rfl) (by decide) (by decide) (fun _ _ _ h => h) (Or.inl ⟨by kernel_rfl, ?_⟩) hHeld ?_
          · intro w' hSw
            obtain ⟨o0, o1, o2, o3, o4, o5, o6⟩ := hSw
            go_simp
          refine wpAnyT_takeB (i := 13) (v := .int .i64 s) rfl (by kernel_rfl) (by kernel_rfl) (by kernel_rfl) (by kernel_rfl) (by kernel_rfl) (by decide) (by decide) (fun _ _ _ h => h) (Or.inl ⟨by kernel_rfl, ?_⟩) hHeld ?_
          · intro w' hSw
            obtain ⟨o0, o1, o2, o3, o4, o5, o6⟩ := hSw
            go_simp
          simp only [Act.put]
          refine wpAnyT_takeB (i := 14) (v := .bool true) rfl (by kernel_rfl) (by kernel_rfl) (by kernel_rfl) (by kernel_rfl) (by kernel_rfl) (by decide) (by decide) (fun _ _ _ h => h) (Or.inl ⟨by kernel_rfl, ?_⟩) hHeld ?_
          · intro w' hSw
            obtain ⟨o0, o1, o2, o3, o4, o5, o6⟩ := hSw
            go_simp
          refine wpAnyT_takeB (i := 15) (v := .int .i64 0) rfl (by kernel_rfl) (by kernel_rfl) (by kernel_rfl) (by kernel_rfl) (by kernel_rfl) (by decide) (by decide) (fun _ _ _ h => h) (Or.inl ⟨by kernel_rfl, ?_⟩) hHeld ?_
          · intro w' hSw
            obtain ⟨o0, o1, o2, o3, o4, o5, o6⟩ := hSw
            go_simp
          simp only [Act.put]
          refine wpAnyT_one (T := fun w' => w'.cell? ⟨w.heap.size, 0, none⟩ = some (.int .i64 cp) ∧ w'.cell? ⟨w.heap.size, 1, none⟩ = some (.int .i64 st) ∧ w'.cell? ⟨w.heap.size, 2, none⟩ = some (.int .i64 fl) ∧ w'.cell? ⟨w.heap.size, 3, none⟩ = some (.slice (some ⟨b, o, none⟩) n pc) ∧ w'.cell? ⟨xb, 0, none⟩ = some (.int .i64 z0) ∧ w'.cell? ⟨xb, 1, none⟩ = some (.int .i64 z1) ∧ w'.cell? ⟨xb, 2, none⟩ = some (.int .i64 z2)) (i := 16) (by kernel_rfl) rfl (fun _ h => ⟨fun _ => trivial, fun _ => h⟩) (fun K hK => ?_)
          go_simp
          refine hK.out _ _ (HPR.out _ HD3) (fun _ => ?_)
          clear hK K
          refine wpAnyT_one (T := fun w' => w'.cell? ⟨w.heap.size, 0, none⟩ = some (.int .i64 cp) ∧ w'.cell? ⟨w.heap.size, 1, none⟩ = some (.int .i64 st) ∧ w'.cell? ⟨w.heap.size, 2, none⟩ = some (.int .i64 fl) ∧ w'.cell? ⟨w.heap.size, 3, none⟩ = some (.slice (some ⟨b, o, none⟩) n pc) ∧ w'.cell? ⟨xb, 0, none⟩ = some (.int .i64 z0) ∧ w'.cell? ⟨xb, 1, none⟩ = some (.int .i64 z1) ∧ w'.cell? ⟨xb, 2, none⟩ = some (.int .i64 z2)) (i := 17) (by kernel_rfl) rfl (fun _ h => ⟨fun _ => trivial, fun _ => h⟩) (fun K hK => ?_)
          go_simp
          refine hK.out _ _ (HPR.out _ HD3) (fun _ => ?_)
          clear hK K
          refine wpAnyT_one (T := fun w' => w'.cell? ⟨w.heap.size, 0, none⟩ = some (.int .i64 cp) ∧ w'.cell? ⟨w.heap.size, 1, none⟩ = some (.int .i64 st) ∧ w'.cell? ⟨w.heap.size, 2, none⟩ = some (.int .i64 fl) ∧ w'.cell? ⟨w.heap.size, 3, none⟩ = some (.slice (some ⟨b, o, none⟩) n pc) ∧ w'.cell? ⟨xb, 0, none⟩ = some (.int .i64 z0) ∧ w'.cell? ⟨xb, 1, none⟩ = some (.int .i64 z1) ∧ w'.cell? ⟨xb, 2, none⟩ = some (.int .i64 z2)) (i := 18) (by kernel_rfl) rfl (fun _ h => ⟨fun _ => trivial, fun _ => h⟩) (fun K hK => ?_)
          go_simp
          refine hK.out _ _ (HPR.out _ HD3) (fun _ => ?_)
          clear hK K
          refine wpAnyT_one (T := fun w' => w'.cell? ⟨w.heap.size, 0, none⟩ = some (.int .i64 cp) ∧ w'.cell? ⟨w.heap.size, 1, none⟩ = some (.int .i64 st) ∧ w'.cell? ⟨w.heap.size, 2, none⟩ = some (.int .i64 fl) ∧ w'.cell? ⟨w.heap.size, 3, none⟩ = some (.slice (some ⟨b, o, none⟩) n pc) ∧ w'.cell? ⟨xb, 0, none⟩ = some (.int .i64 z0) ∧ w'.cell? ⟨xb, 1, none⟩ = some (.int .i64 z1) ∧ w'.cell? ⟨xb, 2, none⟩ = some (.int .i64 z2)) (i := 19) (by kernel_rfl) rfl (fun _ h => ⟨fun _ => trivial, fun _ => h⟩) (fun K hK => ?_)
          go_simp
          refine hK.out _ _ (HPR.out _ HD3) (fun _ => ?_)
          clear hK K
          refine wpAnyT_done (by kernel_rfl) ?_
          go_wp2_with fail
          go_meet
          case rel => exact ⟨y, s, rfl, rfl, rfl, rfl, hs, Lib.hid hy, hyc, Lib.hid HD3⟩
        case rest =>
          obtain ⟨y, s, rfl, rfl, rfl, rfl, hs, HY, hyc, HD⟩ := hcut
          have HP5 := Lib.hid (HP3.out.below HD.out HP3.out.lt)
          have HL5 := Lib.hid (HL3.out.trans (HD.out.mono hz3'))
          clear HP3 HC3 HL3 HD HPR
          have x1 : wc.cell? ⟨xb, 1 + 1, none⟩ = some (.int .i64 z2) := HP5.out.cell 2
          have x2 : wc.cell? ⟨xb, 2, none⟩ = some (.int .i64 z2) := HP5.out.cell 2
          have x3 : wc.cell? ⟨xb, 3, none⟩ = some (.int .i64 z3) := HP5.out.cell 3
          have x3' : wc.cell? ⟨xb, 2 + 1, none⟩ = some (.int .i64 z3) := HP5.out.cell 3
          have x4 : wc.cell? ⟨xb, 4, none⟩ = some (.int .i64 z4) := HP5.out.cell 4
          have x4' : wc.cell? ⟨xb, 3 + 1, none⟩ = some (.int .i64 z4) := HP5.out.cell 4
          have d1 : decide (r < z2) = false := by simp; omega
          have d2 : decide (z3 < r) = false := by simp; omega
          have d3 : decide (x < r) = false := by simp; omega
          have d4 : decide (z4 < s) = false := by simp; omega
          clear ra1 ra2 ra3 hs g1 g2 g3 g4 g5 g6 g7 g8 hcp hst HAK hk1 hk2 hw1 hn1 hx hz3 hz3' H19
          go_wp2_with fail
          go_roundw
          case rel => exact ⟨k + 1, y, by omega, by go_num, rfl, HY, hyc, HL5.out⟩
          case measure => simp [intOf]; omega
      case false =>
        obtain ⟨hx0, hxc⟩ := hx
        clear HR1
        obtain ⟨mo, hmo⟩ : ∃ mo, mo = min z3 x := ⟨_, rfl⟩
        have HMO := Lib.hid hmo
        have hm1 : mo ≤ z3 ∧ mo ≤ x := by omega
        clear hmo
        go_upto_region 21 with fail
        go_cut [17] from 75 to 183 (fun s17 wc => s17 = .int .i64 mo ∧ e2 = wc)
        case first =>
          go_wp2_with fail
          go_meet
          case rel => exact ⟨by rw [HMO.out], rfl⟩
        case rest =>
          obtain ⟨rfl, rfl⟩ := hcut
          by_cases h7 : mo < z2
          · go_wp2_with fail
            go_ret
            exact ⟨rfl, HB2.out⟩
          have h7d : decide (mo < z2) = false := by simpa using h7
          have HPR : Hid (∀ W, Below e2.heap.size e2 W → (fun w' : World => w'.cell? ⟨w.heap.size, 0, none⟩ = some (.int .i64 cp) ∧ w'.cell? ⟨w.heap.size, 1, none⟩ = some (.int .i64 st) ∧ w'.cell? ⟨w.heap.size, 2, none⟩ = some (.int .i64 fl) ∧ w'.cell? ⟨w.heap.size, 3, none⟩ = some (.slice (some ⟨b, o, none⟩) n pc) ∧ w'.cell? ⟨xb, 0, none⟩ = some (.int .i64 z0) ∧ w'.cell? ⟨xb, 1, none⟩ = some (.int .i64 z1) ∧ w'.cell? ⟨xb, 2, none⟩ = some (.int .i64 z2)) W) := Lib.hid fun W h => by
            have y := HC2.out.below h HC2.out.lt
            have z := HP2.out.below h HP2.out.lt
            exact ⟨y.cell 0, y.cell 1, y.cell 2, y.cell 3, z.cell 0, z.cell 1, z.cell 2⟩
          go_upto_region 24 with fail
          go_cut [18] from 75 to 183 (fun s18 wc => ∃ r, s18 = .int .i64 r ∧ (z2 ≤ r ∧ r ≤ mo) ∧ Hid (Below e2.heap.size e2 wc))
          case first =>
            refine wp_region_tail (fun _ => True) (fun w' => w'.cell? ⟨w.heap.size, 0, none⟩ = some (.int .i64 cp) ∧ w'.cell? ⟨w.heap.size, 1, none⟩ = some (.int .i64 st) ∧ w'.cell? ⟨w.heap.size, 2, none⟩ = some (.int .i64 fl) ∧ w'.cell? ⟨w.heap.size, 3, none⟩ = some (.slice (some ⟨b, o, none⟩) n pc) ∧ w'.cell? ⟨xb, 0, none⟩ = some (.int .i64 z0) ∧ w'.cell? ⟨xb, 1, none⟩ = some (.int .i64 z1) ∧ w'.cell? ⟨xb, 2, none⟩ = some (.int .i64 z2)) 8 8 (by kernel_rfl) ⟨trivial, HPR.out _ (Below.refl _ _).drew⟩ (fun hHeld => ?_)
            refine wpAnyT_takeB (i := 0) (v := .pointer (some ⟨xb, 2, none⟩)) rfl (by kernel_rfl) (by kernel_rfl) (by kernel_rfl) (by kernel_rfl) (by kernel_rfl) (by decide) (by decide) (fun _ _ _ h => h) (Or.inl ⟨by kernel_rfl, ?_⟩) hHeld ?_
            · intro w' hSw
              obtain ⟨o0, o1, o2, o3, o4, o5, o6⟩ := hSw
              go_simp
            refine wpAnyT_takeB (i := 1) (v := .int .i64 z2) rfl (by kernel_rfl) (by kernel_rfl) (by kernel_rfl) (by kernel_rfl) (by kernel_rfl) (by decide) (by decide) (fun _ _ _ h => h) (Or.inl ⟨by kernel_rfl, ?_⟩) hHeld ?_
            · intro w' hSw
              obtain ⟨o0, o1, o2, o3, o4, o5, o6⟩ := hSw
              go_simp
            simp only [Act.put]
            refine wpAnyT_takeB (i := 2) (v := .int .i64 mo) rfl (by kernel_rfl) (by kernel_rfl) (by kernel_rfl) (by kernel_rfl) (by kernel_rfl) (by decide) (by decide) (fun _ _ _ h => h) (Or.inl ⟨by kernel_rfl, ?_⟩) hHeld ?_
            · intro w' hSw
              obtain ⟨o0, o1, o2, o3, o4, o5, o6⟩ := hSw
              go_simp
            refine wpAnyT_takeB (i := 3) (v := .agg #[.int .i64 z2, .int .i64 mo]) rfl (by kernel_rfl) (by kernel_rfl) (by kernel_rfl) (by kernel_rfl) (by kernel_rfl) (by decide) (by decide) (fun _ _ _ h => h) (Or.inl ⟨by kernel_rfl, ?_⟩) hHeld ?_
            · intro w' hSw
              obtain ⟨o0, o1, o2, o3, o4, o5, o6⟩ := hSw
              go_simp
            simp only [Act.put]
            refine wpAnyT_takeB (i := 4) (v := .slice UA um uc) rfl (by kernel_rfl) (by kernel_rfl) (by kernel_rfl) (by kernel_rfl) (by kernel_rfl) (by decide) (by decide) (fun _ _ _ h => h) (Or.inl ⟨by kernel_rfl, ?_⟩) hHeld ?_
            · intro w' hSw
              obtain ⟨o0, o1, o2, o3, o4, o5, o6⟩ := hSw
              go_simp
            refine wpAnyT_takeB (i := 5) (v := .int .i64 k) rfl (by kernel_rfl) (by kernel_rfl) (by kernel_rfl) (by kernel_rfl) (by kernel_rfl) (by decide) (by decide) (fun _ _ _ h => h) (Or.inl ⟨by kernel_rfl, ?_⟩) hHeld ?_
            · intro w' hSw
              obtain ⟨o0, o1, o2, o3, o4, o5, o6⟩ := hSw
              go_simp
            simp only [Act.put]
            refine wpAnyT_one (T := fun w' => w'.cell? ⟨w.heap.size, 0, none⟩ = some (.int .i64 cp) ∧ w'.cell? ⟨w.heap.size, 1, none⟩ = some (.int .i64 st) ∧ w'.cell? ⟨w.heap.size, 2, none⟩ = some (.int .i64 fl) ∧ w'.cell? ⟨w.heap.size, 3, none⟩ = some (.slice (some ⟨b, o, none⟩) n pc) ∧ w'.cell? ⟨xb, 0, none⟩ = some (.int .i64 z0) ∧ w'.cell? ⟨xb, 1, none⟩ = some (.int .i64 z1) ∧ w'.cell? ⟨xb, 2, none⟩ = some (.int .i64 z2)) (i := 6) (by kernel_rfl) rfl (fun _ h => ⟨fun _ => trivial, fun _ => h⟩) (fun K hK => ?_)
            go_simp
            go_at_call 27
            refine (H27k.out e2.drew HB2.out.drew).mono ?_
            rintro e d1 ⟨rfl, hd1⟩
            have HD1 : Below e2.heap.size e2 d1 := hd1 ▸ (Below.refl _ _).drew
            refine hK.out _ _ (HPR.out _ HD1) (fun hH => ?_)
            have hHeld := And.intro trivial hH
            clear hK K
            refine wpAnyT_one (T := fun w' => w'.cell? ⟨w.heap.size, 0, none⟩ = some (.int .i64 cp) ∧ w'.cell? ⟨w.heap.size, 1, none⟩ = some (.int .i64 st) ∧ w'.cell? ⟨w.heap.size, 2, none⟩ = some (.int .i64 fl) ∧ w'.cell? ⟨w.heap.size, 3, none⟩ = some (.slice (some ⟨b, o, none⟩) n pc) ∧ w'.cell? ⟨xb, 0, none⟩ = some (.int .i64 z0) ∧ w'.cell? ⟨xb, 1, none⟩ = some (.int .i64 z1) ∧ w'.cell? ⟨xb, 2, none⟩ = some (.int .i64 z2)) (i := 7) (by kernel_rfl) rfl (fun _ h => ⟨fun _ => trivial, fun _ => h⟩) (fun K hK => ?_)
            go_simp
            go_at_call 26
            refine (pick_26 z2 mo av d1 ⟨g4, by omega, by omega⟩ HAK).mono ?_
            rintro e d2 ⟨r, rfl, hr, -, hd2⟩
            have HD2 : Below e2.heap.size e2 d2 := HD1.trans (hd2.mono HD1.size)
            refine hK.out _ _ (HPR.out _ HD2) (fun hH => ?_)
            have hHeld := And.intro trivial hH
            clear hK K
            refine wpAnyT_one (T := fun w' => w'.cell? ⟨w.heap.size, 0, none⟩ = some (.int .i64 cp) ∧ w'.cell? ⟨w.heap.size, 1, none⟩ = some (.int .i64 st) ∧ w'.cell? ⟨w.heap.size, 2, none⟩ = some (.int .i64 fl) ∧ w'.cell? ⟨w.heap.size, 3, none⟩ = some (.slice (some ⟨b, o, none⟩) n pc) ∧ w'.cell? ⟨xb, 0, none⟩ = some (.int .i64 z0) ∧ w'.cell? ⟨xb, 1, none⟩ = some (.int .i64 z1) ∧ w'.cell? ⟨xb, 2, none⟩ = some (.int .i64 z2)) (i := 8) (by kernel_rfl) rfl (fun _ h => ⟨fun _ => trivial, fun _ => h⟩) (fun K hK => ?_)
            go_simp
            refine hK.out _ _ (HPR.out _ HD2) (fun _ => ?_)
            clear hK K
            refine wpAnyT_done (by kernel_rfl) ?_
            go_wp2_with fail
            go_meet
            case rel => exact ⟨r, rfl, hr, Lib.hid HD2⟩
          case rest =>
            obtain ⟨r, rfl, hr, HD⟩ := hcut
            obtain ⟨e3, hyy⟩ : ∃ y, y = wc := ⟨_, rfl⟩
            subst hyy
            obtain ⟨q, hq, h21, ok, y, s, hoy, h19⟩ := HS1.out r (by omega) HX.out
            have HP3 := Lib.hid (HP2.out.below HD.out HP2.out.lt)
            have HC3 := Lib.hid (HC2.out.below HD.out HC2.out.lt)
            have HL3 := Lib.hid (HL2.out.trans (HD.out.mono hzl))
            have HB4 := Lib.hid (HB2.out.trans (HD.out.mono HB2.out.size))
            clear HP2 HC2 HL2 HB2 HD HPR HS1 c0 c1 c2 c3 x1 x2 x3 x3' hm1 HMO g1 g2 g3 g4 g5 g6 g7 g8 hcp hst HAK hk1 hk2 hw1 hn1 hx0 hxc hr h7 h7d
            have c0 : e3.cell? ⟨w.heap.size, 0, none⟩ = some (.int .i64 cp) := HC3.out.cell 0
            have c1 : e3.cell? ⟨w.heap.size, 1, none⟩ = some (.int .i64 st) := HC3.out.cell 1
            have c2 : e3.cell? ⟨w.heap.size, 2, none⟩ = some (.int .i64 fl) := HC3.out.cell 2
            have c3 : e3.cell? ⟨w.heap.size, 3, none⟩ = some (.slice (some ⟨b, o, none⟩) n pc) := HC3.out.cell 3
            go_wp2_with fail
            refine (h21 _ HB4.out).mono ?_
            rintro e e4 ⟨rfl, hb⟩
            have HP4 := Lib.hid (HP3.out.below hb HP3.out.lt)
            have HC4 := Lib.hid (HC3.out.below hb HC3.out.lt)
            have HL4 := Lib.hid (HL3.out.trans (hb.mono HL3.out.size))
            have HB5 := Lib.hid (HB4.out.trans (hb.mono HB4.out.size))
            clear hb HP3 HC3 HL3 HB4 h21 c0 c1 c2 c3
            have c0 : e4.cell? ⟨w.heap.size, 0, none⟩ = some (.int .i64 cp) := HC4.out.cell 0
            have c1 : e4.cell? ⟨w.heap.size, 1, none⟩ = some (.int .i64 st) := HC4.out.cell 1
            have c2 : e4.cell? ⟨w.heap.size, 2, none⟩ = some (.int .i64 fl) := HC4.out.cell 2
            have c3 : e4.cell? ⟨w.heap.size, 3, none⟩ = some (.slice (some ⟨b, o, none⟩) n pc) := HC4.out.cell 3
            go_wp2_with fail
            refine (h19 _ HB5.out).mono ?_
            rintro e e5 ⟨rfl, hb⟩
            have HP5 := Lib.hid (HP4.out.below hb HP4.out.lt)
            have HL5 := Lib.hid (HL4.out.trans (hb.mono HL4.out.size))
            clear hb HP4 HC4 HL4 HB5 h19 c0 c1 c2 c3
            have x0 : e5.cell? ⟨xb, 0, none⟩ = some (.int .i64 z0) := HP5.out.cell 0
            have x1 : e5.cell? ⟨xb, 1, none⟩ = some (.int .i64 z1) := HP5.out.cell 1
            go_wp2_with fail
            refine (Has_25 _ _ _ _).mono ?_
            rintro e e6 ⟨rfl, hb⟩
            have HL6 := Lib.hid (HL5.out.trans (hb.mono HL5.out.size))
            clear hb HP5 HL5 x0 x1
            rw [ri3_iff.2 hq]
            cases ok
            · go_wp2_with fail
              go_ret
              exact ⟨rfl, HB3.out.trans (HL6.out.mono hz3)⟩
            · obtain ⟨ho1, ho2⟩ := hoy rfl
              have HO1 := Lib.hid ho1
              clear ho1 hoy
              go_wp2_with fail
              go_roundw
              case rel => exact ⟨k + 1, y, by omega, by go_num, rfl, HO1, ho2, HL6.out⟩
              case measure => simp [intOf]; omega
    · have hkn : n = k := by omega
      subst hkn
      have HV : Hid (ri3 fl x cp = KP) := Lib.hid (by rw [← HX.out, HEND.out])
      clear HX
      have c0 : wr.cell? ⟨w.heap.size, 0, none⟩ = some (.int .i64 cp) := HKr.out.cell 0
      have c2 : wr.cell? ⟨w.heap.size, 1 + 1, none⟩ = some (.int .i64 fl) := HKr.out.cell 2
      have c2' : wr.cell? ⟨w.heap.size, 2, none⟩ = some (.int .i64 fl) := HKr.out.cell 2
      have hxc : x ≤ cp := hx.2
      by_cases h9 : fl ≤ x
      · have hKt : KP = true := by rw [← HV.out]; exact ri3_iff.2 ⟨h9, hxc⟩
        subst hKt
        go_wp2_with fail
        go_ret
        exact ⟨rfl, HBr.out⟩
      · have hKf : KP = false := by
          rw [← HV.out]
          cases h : ri3 fl x cp
          · rfl
          · exact absurd (ri3_iff.1 h).1 h9
        subst hKf
        have h9d : decide (fl ≤ x) = false := by simpa using h9
        go_wp2_with fail
        go_ret
        exact ⟨rfl, HBr.out⟩
end Go.Proofs.Ytnmocdfogdcliaa
