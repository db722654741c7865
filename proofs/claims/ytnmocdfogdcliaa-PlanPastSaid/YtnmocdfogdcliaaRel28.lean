/- Contract of the helper of the law PlanPast: the releases and the stores of some inflows. -/
import Derived.Test.YtnmocdfogdcliaaPick
import Derived.Test.YtnmocdfogdcliaaKeep2
import Derived.Test.YtnmocdfogdcliaaProgB
import Derived.Test.YtnmocdfogdcliaaProgA
import Derived.Test.YtnmocdfogdcliaaApart
import Derived.Test.YtnmocdfogdcliaaPastModel
import Derived.Deep.CutRange
import Derived.OwnWalk
namespace Go.Proofs.Ytnmocdfogdcliaa
open Go.RowKit

set_option maxRecDepth 100000 in
set_option maxHeartbeats 8000000 in
theorem rel_28 {PA : Option Addr} {n pc : Nat} {cp st fl : Int} {lo hi dm ou sp : Nat → Int} (B um uc lc : Nat) (UA LA : Option Addr) (u : Nat → Int) (w : World) (hck : (chkE cp st fl n lo hi dm ou sp) = 0) (hu : ∀ j, 0 ≤ u j ∧ u j ≤ 4294967295) (hB : B ≤ w.heap.size) (hr : Rd w B PA (n * 5) (psc lo hi dm ou sp)) (hl : Rd w B LA ((n + 1) * 2) (rsc (rb cp fl n lo hi dm ou sp))) (hf : Rd w B UA um (fun j => .int .u32 (u j))) :
    Calls Try.prog 28 #[(.agg #[.int .i64 cp, .int .i64 st, .int .i64 fl, .slice PA n pc]), .slice LA (n + 1) lc, .slice UA um uc] w fun e w' => ∃ (L M oc sc : Nat) (O S : Option Addr), e = .returned (.tuple #[.slice O L oc, .slice S M sc]) ∧ (ri3 (rb cp fl n lo hi dm ou sp 0).1 st (rb cp fl n lo hi dm ou sp 0).2 = false → L = 0) ∧ (ri3 (rb cp fl n lo hi dm ou sp 0).1 st (rb cp fl n lo hi dm ou sp 0).2 = true → L = n ∧ M = n) ∧
      Rd w' w'.heap.size O L (fun j => .int .i64 (rS cp st fl n lo hi dm ou sp (atV u um) j)) ∧ Rd w' w'.heap.size S M (fun j => .int .i64 (xS cp st fl n lo hi dm ou sp (atV u um) j)) ∧ Below w.heap.size w w' := by
  obtain ⟨w0, hw0⟩ : ∃ zz, zz = w.alloc (.cells #[.int .i64 cp, .int .i64 st, .int .i64 fl, .slice PA n pc] 26) := ⟨_, rfl⟩
  have HK0 : Hid (Blk w0 w.heap.size 26 #[.int .i64 cp, .int .i64 st, .int .i64 fl, .slice PA n pc]) := Lib.hid (hw0 ▸ Blk.new _ _ _)
  have HB0 : Hid (Below w.heap.size w w0) := Lib.hid (hw0 ▸ below_alloc _ _)
  have HW := Lib.hid hw0
  have HRD := Lib.hid hr
  have HLR := Lib.hid hl
  have hg := good_of hck
  have h64 : n ≤ 64 := hg.1
  have hn : n ≤ 9223372036854775807 := by omega
  have hst : 0 ≤ st ∧ st ≤ cp := ⟨(chk_zero hck).2.1.1, (chk_zero hck).2.1.2.1⟩
  have H27 : Hid (∀ W (i : Nat), Below w.heap.size w W → Calls Try.prog 27 #[.slice UA um uc, .int .i64 i] W fun e w' => e = .returned (.int .u32 (atV u um i)) ∧ W = w') := Lib.hid fun W i h => at_27 UA um uc B i u W (hf.below (h.mono hB))
  have HAT : Hid (∀ i, 0 ≤ atV u um i ∧ atV u um i ≤ 4294967295) := Lib.hid fun i => by
    unfold atV
    split
    · exact hu i
    · omega
  obtain ⟨KP, hKP⟩ : ∃ KP, KP = ri3 (rb cp fl n lo hi dm ou sp 0).1 st (rb cp fl n lo hi dm ou sp 0).2 := ⟨_, rfl⟩
  rw [← hKP]
  have HKT : Hid (∀ k, k < n → (KP = false → k = 0) → ri3 (rb cp fl n lo hi dm ou sp k).1 (xS cp st fl n lo hi dm ou sp (atV u um) k) (rb cp fl n lo hi dm ou sp k).2 = KP ∧ 0 ≤ xS cp st fl n lo hi dm ou sp (atV u um) k ∧ xS cp st fl n lo hi dm ou sp (atV u um) k ≤ cp) := Lib.hid fun k hk h0 => by
    cases h : KP
    · have := h0 h
      subst this
      exact ⟨(hKP.symm.trans h : _), hst⟩
    · exact xS_ok hg hst (hKP.symm.trans h) (atV u um) k (by omega)
  have HREL : Hid (∀ k, k < n → KP = true → ∃ (r q y s : Int), r = rS cp st fl n lo hi dm ou sp (atV u um) k ∧ y = xS cp st fl n lo hi dm ou sp (atV u um) (k + 1) ∧ q = lo k + atV u um k % (hi k - lo k + 1) ∧
      (∀ W, Below w.heap.size w W → Calls Try.prog 17 #[(.agg #[.int .i64 cp, .int .i64 st, .int .i64 fl, .slice PA n pc]), .int .i64 (k : Nat), .int .i64 (xS cp st fl n lo hi dm ou sp (atV u um) k)] W fun e w' => e = .returned (.tuple #[.int .i64 r, .int .i64 0]) ∧ Below W.heap.size W w') ∧
      ∀ W, Below w.heap.size w W → Calls Try.prog 19 #[(.agg #[.int .i64 cp, .int .i64 st, .int .i64 fl, .slice PA n pc]), .int .i64 (k : Nat), .int .i64 (xS cp st fl n lo hi dm ou sp (atV u um) k), .int .i64 r, .int .i64 q] W fun e w' => e = .returned (.tuple #[.int .i64 y, .int .i64 s, .bool true, .int .i64 0]) ∧ Below W.heap.size W w') := Lib.hid fun k hk hT => by
    obtain ⟨h, hx⟩ := HKT.out k hk (fun e => by rw [hT] at e; cases e)
    rw [hT] at h
    obtain ⟨e1, e2⟩ := rel_ok hck hk hx h
    obtain ⟨⟨g1, g2, g3⟩, ⟨g4, g5, g6⟩, _⟩ := hg.2.2.2 k hk
    have hcp := hg.2.1
    have hq : lo k ≤ lo k + atV u um k % (hi k - lo k + 1) ∧ lo k + atV u um k % (hi k - lo k + 1) ≤ hi k := by
      have h1 := Int.emod_nonneg (atV u um k) (show hi k - lo k + 1 ≠ 0 by omega)
      have h2 := Int.emod_lt_of_pos (atV u um k) (show 0 < hi k - lo k + 1 by omega)
      omega
    obtain ⟨k1, k2, k3, k4⟩ := keep_ok (q := lo k + atV u um k % (hi k - lo k + 1)) hg hk h hq rfl
    refine ⟨_, _, _, nxS cp (xS cp st fl n lo hi dm ou sp (atV u um) k) (rS cp st fl n lo hi dm ou sp (atV u um) k) (lo k + atV u um k % (hi k - lo k + 1)), rfl, rfl, rfl, fun W hW => ?_, fun W hW => ?_⟩
    · have := Release_17 (pc := pc) (PA := PA) (cp := cp) (st := st) (fl := fl) (lo := lo) (hi := hi) (dm := dm) (ou := ou) (sp := sp) B (k : Int) (xS cp st fl n lo hi dm ou sp (atV u um) k) W hn (by have := hW.size; omega) (hr.below (hW.mono hB))
      rw [e1, e2] at this
      exact this
    · have := Next_19 (pc := pc) (PA := PA) (cp := cp) (st := st) (fl := fl) (lo := lo) (hi := hi) (dm := dm) (ou := ou) (sp := sp) B (k : Int) (xS cp st fl n lo hi dm ou sp (atV u um) k) (rS cp st fl n lo hi dm ou sp (atV u um) k) (lo k + atV u um k % (hi k - lo k + 1)) W hn (by have := hW.size; omega) (hr.below (hW.mono hB))
      have k1' : dm k ≤ rS cp st fl n lo hi dm ou sp (atV u um) k ∧ rS cp st fl n lo hi dm ou sp (atV u um) k ≤ ou k ∧ rS cp st fl n lo hi dm ou sp (atV u um) k ≤ xS cp st fl n lo hi dm ou sp (atV u um) k := k1
      rw [nx_ok hck hk hx ⟨by omega, by omega⟩ ⟨by omega, by omega⟩ k1'] at this
      have ho : nxO cp sp k (xS cp st fl n lo hi dm ou sp (atV u um) k) (rS cp st fl n lo hi dm ou sp (atV u um) k) (lo k + atV u um k % (hi k - lo k + 1)) = true := by unfold nxO; exact decide_eq_true k2
      rw [ho] at this
      exact this
  have HX0 : Hid (xS cp st fl n lo hi dm ou sp (atV u um) 0 = st) := Lib.hid rfl
  have HGG := Lib.hid hg
  clear hw0 hr hl hf hu hg hck hKP hn hst
  generalize xS cp st fl n lo hi dm ou sp (atV u um) = X at *
  generalize rS cp st fl n lo hi dm ou sp (atV u um) = R at *
  generalize rb cp fl n lo hi dm ou sp = F at *
  generalize atV u um = AV at *
  obtain ⟨i0, hif, hz0, hz1, hz2⟩ := info_parts info3
  go_enter Try.func28, Try.ntmps28
  go_upto_region 1 with fail
  rw [← HW.out]
  clear HW
  have c1 : w0.cell? ⟨w.heap.size, 1, none⟩ = some (.int .i64 st) := HK0.out.cell 1
  have c1' : w0.cell? ⟨w.heap.size, 0 + 1, none⟩ = some (.int .i64 st) := HK0.out.cell 1
  have c3 : w0.cell? ⟨w.heap.size, 3, none⟩ = some (.slice PA n pc) := HK0.out.cell 3
  have c3' : w0.cell? ⟨w.heap.size, 2 + 1, none⟩ = some (.slice PA n pc) := HK0.out.cell 3
  have hz0' := HB0.out.size
  have hclt := HK0.out.lt
  go_wp2_with fail
  clear c1 c1' c3 c3'
  go_loopw [6, 7, 8, 23] (fun s6 s7 s8 i wr => ∃ k : Nat, k ≤ n ∧ i = .int .i64 k ∧ s8 = .int .i64 (X k) ∧ (KP = false → k = 0) ∧ wr.ownsRow w0.heap.size 3 1 s6 k (rowOf R k) ∧ wr.ownsRow w0.heap.size 3 1 s7 k (rowOf X k) ∧ Apart s6 s7 ∧ Below w0.heap.size w0 wr) (fun _ _ _ i _ => n - (intOf i).toNat)
  case atStart => exact ⟨0, Nat.zero_le _, rfl, by rw [HX0.out], fun _ => rfl, World.ownsRow_nil _ _ _ _, World.ownsRow_nil _ _ _ _, (by intro g' hg'; cases hg'), Below.refl _ _⟩
  case round =>
    obtain ⟨k, hk, rfl, rfl, hk0, ho, hs, hap, hb⟩ := hrel
    have HL := Lib.hid hb
    have HO := Lib.hid ho
    have HS := Lib.hid hs
    have HAP := Lib.hid hap
    have HK := Lib.hid hk0
    have HBr := Lib.hid (HB0.out.trans (hb.mono hz0'))
    have HKr := Lib.hid (HK0.out.below hb hclt)
    have hwr := hb.size
    clear hb ho hs hap hk0
    by_cases hlt : ¬ k < n
    · have hlt' : ¬ (k : Int) < n := by omega
      have hkn : k = n := by omega
      subst hkn
      obtain ⟨O, oc, rfl⟩ := own_form HO.out
      obtain ⟨S, sc, rfl⟩ := own_form HS.out
      go_wp2_with fail
      refine bodyPost_ret (results_tmp2 rfl _ _ _) rfl ?_
      exact ⟨k, k, oc, sc, O, S, rfl, HK.out, fun _ => ⟨rfl, rfl⟩, rd_rowOf HO.out, rd_rowOf HS.out, HBr.out⟩
    · have hlt : k < n := by omega
      have hlt' : (k : Int) < n := by omega
      obtain ⟨⟨g1, g2, g3⟩, ⟨g4, g5, g6⟩, g7, g8⟩ := HGG.out.2.2.2 k hlt
      obtain ⟨hkp, hx⟩ := HKT.out k hlt HK.out
      have HKP := Lib.hid hkp
      obtain ⟨b, o, rfl, _, q0, q1, q2, q3, q4⟩ := per_at (HRD.out.below (HBr.out.mono hB)) hlt
      have hk1 : (k : Int) < (n : Int) + 1 := by omega
      have hk2 : k < n + 1 := by omega
      have HR1 := Lib.hid (HREL.out k hlt)
      have HAK := HAT.out k
      have H27k := Lib.hid (fun W => H27.out W k)
      clear hkp
      generalize AV k = av at HAK H27k HR1
      generalize lo k = z0 at *
      generalize hi k = z1 at *
      generalize dm k = z2 at *
      generalize ou k = z3 at *
      generalize sp k = z4 at *
      obtain ⟨b1, o1, rfl, hb1r, r0, r1⟩ := rng_at (HLR.out.below (HBr.out.mono hB)) hk2
      go_upto_region 5 with fail
      obtain ⟨e1, he1⟩ : ∃ zz, zz = wr.alloc (.cells #[.int .i64 z0, .int .i64 z1, .int .i64 z2, .int .i64 z3, .int .i64 z4] 50) := ⟨_, rfl⟩
      have HP1 : Hid (Blk e1 wr.heap.size 50 #[.int .i64 z0, .int .i64 z1, .int .i64 z2, .int .i64 z3, .int .i64 z4]) := Lib.hid (he1 ▸ Blk.new _ _ _)
      have HL1 : Hid (Below w0.heap.size w0 e1) := Lib.hid (he1 ▸ HL.out.alloc hwr _)
      have HC1 : Hid (Blk e1 w.heap.size 26 #[.int .i64 cp, .int .i64 st, .int .i64 fl, .slice (some ⟨b, o, none⟩) n pc]) := Lib.hid (he1 ▸ HKr.out.alloc _)
      have HO1 : Hid (e1.ownsRow w0.heap.size 3 1 u6 k (rowOf R k)) := Lib.hid (he1 ▸ HO.out.alloc _)
      have HS1 : Hid (e1.ownsRow w0.heap.size 3 1 u7 k (rowOf X k)) := Lib.hid (he1 ▸ HS.out.alloc _)
      rw [← he1]
      have hxe : wr.heap.size < e1.heap.size := by rw [he1]; simp
      have hb1w : b1 < w.heap.size := by omega
      clear he1 HL HBr HKr q0 q1 q2 q3 q4 r0 r1 hb1r
      go_upto_region 6 with (at_builtin; refine wpList_append_own_at _ rfl _ _ 41 rfl w0.heap.size 3 i0 (.int .i64 0) 1 8 Try.underlying41 hif hz0 hz1 hz2 rfl (by decide) u7 k (rowOf X k) rfl (HS1.out.alloc _) ⟨_, 0, none⟩ 1 1 [.int .i64 (X k)] rfl rfl (cell_one_new _ _ _) (by simp [Value.oneCell']) (by unfold maxLen; omega) (by omega) (by simp; omega) ?_; intro v7 wa hown1 hgrow1 _ hat1)
      have HS2 : Hid (wa.ownsRow w0.heap.size 3 1 v7 (k + 1) (rowOf X (k + 1))) := Lib.hid (by rw [← rowOf_succ]; exact hown1)
      have HO2 : Hid (wa.ownsRow w0.heap.size 3 1 u6 k (rowOf R k)) := Lib.hid (Apart.kept (HO1.out.alloc _) HAP.out.symm hgrow1)
      have HAP2 : Hid (Apart u6 v7) := Lib.hid (Apart.step HO1.out (by simp) HAP.out.symm hat1).symm
      have HP2 := Lib.hid (blk_apart (HP1.out.alloc _) hgrow1 HS.out (Nat.le_refl _))
      have HC2 := Lib.hid (blk_low (HC1.out.alloc _) hgrow1 HS.out hclt)
      have HL2 : Hid (Below w0.heap.size w0 wa) := Lib.hid ((HL1.out.trans (Below.mono (below_alloc _ _) (by omega))).grown hgrow1 (by simp; omega) (fun j hj => (HS1.out.lt j hj).1))
      have HB2 : Hid (Below w.heap.size w wa) := Lib.hid (HB0.out.trans (HL2.out.mono hz0'))
      clear hown1 hgrow1 hat1 HS1 HO1 HAP HP1 HC1 HL1 HO HS
      generalize wr.heap.size = xb at *
      clear hxe
      obtain ⟨b1', o1', e', _, r0, r1⟩ := rng_at (HLR.out.below (HB2.out.mono hB)) hk2
      injection e' with e'
      injection e' with e1 e2
      subst e1 e2
      go_wp2_with fail
      refine (Has_25 _ _ _ _).mono ?_
      rintro e e2 ⟨rfl, hb⟩
      rw [HKP.out]
      have HS3 := Lib.hid (own_below HS2.out hb)
      have HO3 := Lib.hid (own_below HO2.out hb)
      have HP3 := Lib.hid (HP2.out.below hb HP2.out.lt)
      have HC3 := Lib.hid (HC2.out.below hb HC2.out.lt)
      have HL3 := Lib.hid (below_then HL2.out hb (Nat.le_refl _))
      have HB3 := Lib.hid (HB2.out.trans (hb.mono HB2.out.size))
      clear hb HS2 HO2 HP2 HC2 HL2 HB2 r0 r1
      clear wa
      cases KP
      · obtain ⟨O, oc, rfl⟩ := own_form HO3.out
        obtain ⟨S, sc, rfl⟩ := own_form HS3.out
        go_wp2_with fail
        refine bodyPost_ret (results_tmp2 rfl _ _ _) rfl ?_
        exact ⟨k, k + 1, oc, sc, O, S, rfl, by simpa using HK.out, rd_rowOf HO3.out, rd_rowOf HS3.out, HB3.out⟩
      obtain ⟨r, q, y, s, hr, hy, hq, h17, h19⟩ := HR1.out rfl
      have HRR := Lib.hid hr
      have HYY := Lib.hid hy
      have HQQ := Lib.hid hq
      have H19 := Lib.hid h19
      have H17 := Lib.hid h17
      clear hr hy hq h19 h17 HR1
      have c0 : e2.cell? ⟨w.heap.size, 0, none⟩ = some (.int .i64 cp) := HC3.out.cell 0
      have c1 : e2.cell? ⟨w.heap.size, 1, none⟩ = some (.int .i64 st) := HC3.out.cell 1
      have c2 : e2.cell? ⟨w.heap.size, 2, none⟩ = some (.int .i64 fl) := HC3.out.cell 2
      have c3 : e2.cell? ⟨w.heap.size, 3, none⟩ = some (.slice (some ⟨b, o, none⟩) n pc) := HC3.out.cell 3
      go_upto_region 8 with fail
      go_wp2_with fail
      refine (H17.out _ HB3.out).mono ?_
      rintro e e3 ⟨rfl, hb⟩
      have HS4 := Lib.hid (own_below HS3.out hb)
      have HO4 := Lib.hid (own_below HO3.out hb)
      have HP4 := Lib.hid (HP3.out.below hb HP3.out.lt)
      have HC4 := Lib.hid (HC3.out.below hb HC3.out.lt)
      have HL4 := Lib.hid (below_then HL3.out hb (Nat.le_refl _))
      have HB4 := Lib.hid (HB3.out.trans (hb.mono HB3.out.size))
      clear hb HS3 HO3 HP3 HC3 HL3 HB3 H17 c0 c1 c2 c3
      clear e2
      have HPR : Hid (∀ W, Below e3.heap.size e3 W → (fun w' : World => w'.cell? ⟨w.heap.size, 0, none⟩ = some (.int .i64 cp) ∧ w'.cell? ⟨w.heap.size, 1, none⟩ = some (.int .i64 st) ∧ w'.cell? ⟨w.heap.size, 2, none⟩ = some (.int .i64 fl) ∧ w'.cell? ⟨w.heap.size, 3, none⟩ = some (.slice (some ⟨b, o, none⟩) n pc) ∧ w'.cell? ⟨xb, 0, none⟩ = some (.int .i64 z0) ∧ w'.cell? ⟨xb, 1, none⟩ = some (.int .i64 z1) ∧ w'.cell? ⟨xb, 2, none⟩ = some (.int .i64 z2)) W) := Lib.hid fun W h => by
        have y := HC4.out.below h HC4.out.lt
        have z := HP4.out.below h HP4.out.lt
        exact ⟨y.cell 0, y.cell 1, y.cell 2, y.cell 3, z.cell 0, z.cell 1, z.cell 2⟩
      go_upto_region 9 with fail
      go_cut [13, 14, 15, 16] from 48 to 81 (fun s13 s14 s15 s16 wc => s13 = .int .i64 y ∧ s14 = .int .i64 s ∧ s15 = .bool true ∧ s16 = .int .i64 0 ∧ Hid (Below e3.heap.size e3 wc))
      case first =>
        refine wp_region_tail (fun _ => True) (fun w' => w'.cell? ⟨w.heap.size, 0, none⟩ = some (.int .i64 cp) ∧ w'.cell? ⟨w.heap.size, 1, none⟩ = some (.int .i64 st) ∧ w'.cell? ⟨w.heap.size, 2, none⟩ = some (.int .i64 fl) ∧ w'.cell? ⟨w.heap.size, 3, none⟩ = some (.slice (some ⟨b, o, none⟩) n pc) ∧ w'.cell? ⟨xb, 0, none⟩ = some (.int .i64 z0) ∧ w'.cell? ⟨xb, 1, none⟩ = some (.int .i64 z1) ∧ w'.cell? ⟨xb, 2, none⟩ = some (.int .i64 z2)) 19 19 (by kernel_rfl) ⟨trivial, HPR.out _ (Below.refl _ _).drew⟩ (fun hHeld => ?_)
        refine wpAnyT_takeB (i := 0) (v := .agg #[.int .i64 cp, .int .i64 st, .int .i64 fl, .slice (some ⟨b, o, none⟩) n pc]) rfl (by kernel_rfl) (by kernel_rfl) (by kernel_rfl) (by kernel_rfl) (by kernel_rfl) (by decide) (by decide) (fun _ _ _ h => h) (Or.inl ⟨by kernel_rfl, ?_⟩) hHeld ?_
        · intro w' hSw
          obtain ⟨o0, o1, o2, o3, o4, o5, o6⟩ := hSw
          go_simp
        refine wpAnyT_takeB (i := 1) (v := .int .i64 k) rfl (by kernel_rfl) (by kernel_rfl) (by kernel_rfl) (by kernel_rfl) (by kernel_rfl) (by decide) (by decide) (fun _ _ _ h => h) (Or.inl ⟨by kernel_rfl, ?_⟩) hHeld ?_
        · intro w' hSw
          obtain ⟨o0, o1, o2, o3, o4, o5, o6⟩ := hSw
          go_simp
        simp only [Act.put]
        refine wpAnyT_takeB (i := 2) (v := .int .i64 (X k)) rfl (by kernel_rfl) (by kernel_rfl) (by kernel_rfl) (by kernel_rfl) (by kernel_rfl) (by decide) (by decide) (fun _ _ _ h => h) (Or.inl ⟨by kernel_rfl, ?_⟩) hHeld ?_
        · intro w' hSw
          obtain ⟨o0, o1, o2, o3, o4, o5, o6⟩ := hSw
          go_simp
        refine wpAnyT_takeB (i := 3) (v := .int .i64 r) rfl (by kernel_rfl) (by kernel_rfl) (by kernel_rfl) (by kernel_rfl) (by kernel_rfl) (by decide) (by decide) (fun _ _ _ h => h) (Or.inl ⟨by kernel_rfl, ?_⟩) hHeld ?_
        · intro w' hSw
          obtain ⟨o0, o1, o2, o3, o4, o5, o6⟩ := hSw
          go_simp
        simp only [Act.put]
        refine wpAnyT_takeB (i := 4) (v := .pointer (some ⟨xb, 0, none⟩)) rfl (by kernel_rfl) (by kernel_rfl) (by kernel_rfl) (by kernel_rfl) (by kernel_rfl) (by decide) (by decide) (fun _ _ _ h => h) (Or.inl ⟨by kernel_rfl, ?_⟩) hHeld ?_
        · intro w' hSw
          obtain ⟨o0, o1, o2, o3, o4, o5, o6⟩ := hSw
          go_simp
        refine wpAnyT_takeB (i := 5) (v := .agg #[.int .i64 z0, .int .i64 z1]) rfl (by kernel_rfl) (by kernel_rfl) (by kernel_rfl) (by kernel_rfl) (by kernel_rfl) (by decide) (by decide) (fun _ _ _ h => h) (Or.inl ⟨by kernel_rfl, ?_⟩) hHeld ?_
        · intro w' hSw
          obtain ⟨o0, o1, o2, o3, o4, o5, o6⟩ := hSw
          go_simp
        simp only [Act.put]
        refine wpAnyT_takeB (i := 6) (v := .slice UA um uc) rfl (by kernel_rfl) (by kernel_rfl) (by kernel_rfl) (by kernel_rfl) (by kernel_rfl) (by decide) (by decide) (fun _ _ _ h => h) (Or.inl ⟨by kernel_rfl, ?_⟩) hHeld ?_
        · intro w' hSw
          obtain ⟨o0, o1, o2, o3, o4, o5, o6⟩ := hSw
          go_simp
        refine wpAnyT_takeB (i := 7) (v := .int .i64 k) rfl (by kernel_rfl) (by kernel_rfl) (by kernel_rfl) (by kernel_rfl) (by kernel_rfl) (by decide) (by decide) (fun _ _ _ h => h) (Or.inl ⟨by kernel_rfl, ?_⟩) hHeld ?_
        · intro w' hSw
          obtain ⟨o0, o1, o2, o3, o4, o5, o6⟩ := hSw
          go_simp
        simp only [Act.put]
        refine wpAnyT_one (T := fun w' => w'.cell? ⟨w.heap.size, 0, none⟩ = some (.int .i64 cp) ∧ w'.cell? ⟨w.heap.size, 1, none⟩ = some (.int .i64 st) ∧ w'.cell? ⟨w.heap.size, 2, none⟩ = some (.int .i64 fl) ∧ w'.cell? ⟨w.heap.size, 3, none⟩ = some (.slice (some ⟨b, o, none⟩) n pc) ∧ w'.cell? ⟨xb, 0, none⟩ = some (.int .i64 z0) ∧ w'.cell? ⟨xb, 1, none⟩ = some (.int .i64 z1) ∧ w'.cell? ⟨xb, 2, none⟩ = some (.int .i64 z2)) (i := 8) (by kernel_rfl) rfl (fun _ h => ⟨fun _ => trivial, fun _ => h⟩) (fun K hK => ?_)
        go_simp
        go_at_call 27
        refine (H27k.out e3.drew HB4.out.drew).mono ?_
        rintro e d1 ⟨rfl, hd1⟩
        have HD1 : Below e3.heap.size e3 d1 := hd1 ▸ (Below.refl _ _).drew
        refine hK.out _ _ (HPR.out _ HD1) (fun hH => ?_)
        have hHeld := And.intro trivial hH
        clear hK K
        refine wpAnyT_one (T := fun w' => w'.cell? ⟨w.heap.size, 0, none⟩ = some (.int .i64 cp) ∧ w'.cell? ⟨w.heap.size, 1, none⟩ = some (.int .i64 st) ∧ w'.cell? ⟨w.heap.size, 2, none⟩ = some (.int .i64 fl) ∧ w'.cell? ⟨w.heap.size, 3, none⟩ = some (.slice (some ⟨b, o, none⟩) n pc) ∧ w'.cell? ⟨xb, 0, none⟩ = some (.int .i64 z0) ∧ w'.cell? ⟨xb, 1, none⟩ = some (.int .i64 z1) ∧ w'.cell? ⟨xb, 2, none⟩ = some (.int .i64 z2)) (i := 9) (by kernel_rfl) rfl (fun _ h => ⟨fun _ => trivial, fun _ => h⟩) (fun K hK => ?_)
        go_simp
        go_at_call 26
        refine (pick_26 z0 z1 av d1 ⟨g1, g2, g3⟩ HAK).mono ?_
        rintro e d2 ⟨v, rfl, -, hve, hd2⟩
        obtain rfl : q = v := HQQ.out.trans hve.symm
        clear hve
        have HD2 : Below e3.heap.size e3 d2 := HD1.trans (hd2.mono HD1.size)
        refine hK.out _ _ (HPR.out _ HD2) (fun hH => ?_)
        have hHeld := And.intro trivial hH
        clear hK K
        refine wpAnyT_one (T := fun w' => w'.cell? ⟨w.heap.size, 0, none⟩ = some (.int .i64 cp) ∧ w'.cell? ⟨w.heap.size, 1, none⟩ = some (.int .i64 st) ∧ w'.cell? ⟨w.heap.size, 2, none⟩ = some (.int .i64 fl) ∧ w'.cell? ⟨w.heap.size, 3, none⟩ = some (.slice (some ⟨b, o, none⟩) n pc) ∧ w'.cell? ⟨xb, 0, none⟩ = some (.int .i64 z0) ∧ w'.cell? ⟨xb, 1, none⟩ = some (.int .i64 z1) ∧ w'.cell? ⟨xb, 2, none⟩ = some (.int .i64 z2)) (i := 10) (by kernel_rfl) rfl (fun _ h => ⟨fun _ => trivial, fun _ => h⟩) (fun K hK => ?_)
        go_simp
        go_at_call 19
        refine (H19.out d2 (HB4.out.trans (HD2.mono HB4.out.size))).mono ?_
        rintro e d3 ⟨rfl, hd3⟩
        have HD3 : Below e3.heap.size e3 d3 := HD2.trans (hd3.mono HD2.size)
        refine hK.out _ _ (HPR.out _ HD3) (fun hH => ?_)
        have hHeld := And.intro trivial hH
        clear hK K
        refine wpAnyT_takeB (i := 11) (v := .tuple #[.int .i64 y, .int .i64 s, .bool true, .int .i64 0]) rfl (by kernel_rfl) (by kernel_rfl) (by kernel_rfl) (by kernel_rfl) (by kernel_rfl) (by decide) (by decide) (fun _ _ _ h => h) (Or.inl ⟨by kernel_rfl, ?_⟩) hHeld ?_
        · intro w' hSw
          obtain ⟨o0, o1, o2, o3, o4, o5, o6⟩ := hSw
          go_simp
        simp only [Act.put]
        refine wpAnyT_takeB (i := 12) (v := .int .i64 y) rfl (by kernel_rfl) (by kernel_rfl) (by kernel_rfl) (by kernel_rfl) (by kernel_rfl) (by decide) (by decide) (fun _ _ _ h => h) (Or.inl ⟨by kernel_rfl, ?_⟩) hHeld ?_
        · intro w' hSw
          obtain ⟨o0, o1, o2, o3, o4, o5, o6⟩ := hSw
          go_simp
        refine wpAnyT_takeB (i := 13) (v := .int .i64 s) rfl (by kernel_rfl) (by kernel_rfl) (by kernel_rfl) (by kernel_rfl) (by kernel_rfl) (by decide) (by decide) (fun _ _ _ h => h) (Or.inl ⟨by kernel_rfl, ?_⟩) hHeld ?_
        · intro w' hSw
          obtain ⟨o0, o1, o2, o3, o4, o5, o6⟩ := hSw
          go_simp
        simp only [Act.put]
        refine wpAnyT_takeB (i := 14) (v := .bool true) rfl (by kernel_rfl) (by kernel_rfl) (by kernel_rfl) (by kernel_rfl) (by kernel_rfl) (by decide) (by decide) (fun _ _ _ h => h) (Or.inl ⟨by kernel_rfl, ?_⟩) hHeld ?_
        · intro w' hSw
          obtain ⟨o0, o1, o2, o3, o4, o5, o6⟩ := hSw
          go_simp
        refine wpAnyT_takeB (i := 15) (v := .int .i64 0) rfl (by kernel_rfl) (by kernel_rfl) (by kernel_rfl) (by kernel_rfl) (by kernel_rfl) (by decide) (by decide) (fun _ _ _ h => h) (Or.inl ⟨by kernel_rfl, ?_⟩) hHeld ?_
        · intro w' hSw
          obtain ⟨o0, o1, o2, o3, o4, o5, o6⟩ := hSw
          go_simp
        simp only [Act.put]
        refine wpAnyT_one (T := fun w' => w'.cell? ⟨w.heap.size, 0, none⟩ = some (.int .i64 cp) ∧ w'.cell? ⟨w.heap.size, 1, none⟩ = some (.int .i64 st) ∧ w'.cell? ⟨w.heap.size, 2, none⟩ = some (.int .i64 fl) ∧ w'.cell? ⟨w.heap.size, 3, none⟩ = some (.slice (some ⟨b, o, none⟩) n pc) ∧ w'.cell? ⟨xb, 0, none⟩ = some (.int .i64 z0) ∧ w'.cell? ⟨xb, 1, none⟩ = some (.int .i64 z1) ∧ w'.cell? ⟨xb, 2, none⟩ = some (.int .i64 z2)) (i := 16) (by kernel_rfl) rfl (fun _ h => ⟨fun _ => trivial, fun _ => h⟩) (fun K hK => ?_)
        go_simp
        refine hK.out _ _ (HPR.out _ HD3) (fun _ => ?_)
        clear hK K
        refine wpAnyT_one (T := fun w' => w'.cell? ⟨w.heap.size, 0, none⟩ = some (.int .i64 cp) ∧ w'.cell? ⟨w.heap.size, 1, none⟩ = some (.int .i64 st) ∧ w'.cell? ⟨w.heap.size, 2, none⟩ = some (.int .i64 fl) ∧ w'.cell? ⟨w.heap.size, 3, none⟩ = some (.slice (some ⟨b, o, none⟩) n pc) ∧ w'.cell? ⟨xb, 0, none⟩ = some (.int .i64 z0) ∧ w'.cell? ⟨xb, 1, none⟩ = some (.int .i64 z1) ∧ w'.cell? ⟨xb, 2, none⟩ = some (.int .i64 z2)) (i := 17) (by kernel_rfl) rfl (fun _ h => ⟨fun _ => trivial, fun _ => h⟩) (fun K hK => ?_)
        go_simp
        refine hK.out _ _ (HPR.out _ HD3) (fun _ => ?_)
        clear hK K
        refine wpAnyT_one (T := fun w' => w'.cell? ⟨w.heap.size, 0, none⟩ = some (.int .i64 cp) ∧ w'.cell? ⟨w.heap.size, 1, none⟩ = some (.int .i64 st) ∧ w'.cell? ⟨w.heap.size, 2, none⟩ = some (.int .i64 fl) ∧ w'.cell? ⟨w.heap.size, 3, none⟩ = some (.slice (some ⟨b, o, none⟩) n pc) ∧ w'.cell? ⟨xb, 0, none⟩ = some (.int .i64 z0) ∧ w'.cell? ⟨xb, 1, none⟩ = some (.int .i64 z1) ∧ w'.cell? ⟨xb, 2, none⟩ = some (.int .i64 z2)) (i := 18) (by kernel_rfl) rfl (fun _ h => ⟨fun _ => trivial, fun _ => h⟩) (fun K hK => ?_)
        go_simp
        refine hK.out _ _ (HPR.out _ HD3) (fun _ => ?_)
        clear hK K
        refine wpAnyT_one (T := fun w' => w'.cell? ⟨w.heap.size, 0, none⟩ = some (.int .i64 cp) ∧ w'.cell? ⟨w.heap.size, 1, none⟩ = some (.int .i64 st) ∧ w'.cell? ⟨w.heap.size, 2, none⟩ = some (.int .i64 fl) ∧ w'.cell? ⟨w.heap.size, 3, none⟩ = some (.slice (some ⟨b, o, none⟩) n pc) ∧ w'.cell? ⟨xb, 0, none⟩ = some (.int .i64 z0) ∧ w'.cell? ⟨xb, 1, none⟩ = some (.int .i64 z1) ∧ w'.cell? ⟨xb, 2, none⟩ = some (.int .i64 z2)) (i := 19) (by kernel_rfl) rfl (fun _ h => ⟨fun _ => trivial, fun _ => h⟩) (fun K hK => ?_)
        go_simp
        refine hK.out _ _ (HPR.out _ HD3) (fun _ => ?_)
        clear hK K
        refine wpAnyT_done (by kernel_rfl) ?_
        go_wp2_with fail
        go_meet
        case rel => exact ⟨rfl, rfl, rfl, rfl, Lib.hid HD3⟩
      case rest =>
        obtain ⟨rfl, rfl, rfl, rfl, HD⟩ := hcut
        obtain ⟨e4, h4⟩ : ∃ y, y = wc := ⟨_, rfl⟩
        subst h4
        have HS5 := Lib.hid (own_below HS4.out HD.out)
        have HO5 := Lib.hid (own_below HO4.out HD.out)
        have HL5 := Lib.hid (below_then HL4.out HD.out (Nat.le_refl _))
        have hwe := HL5.out.size
        clear HS4 HO4 HL4 HB4 HD HPR HP4 HC4 H19
        clear g1 g2 g3 g4 g5 g6 g7 g8 HAK
        go_upto_region 11 with (at_builtin; refine wpList_append_own_at _ rfl _ _ 41 rfl w0.heap.size 3 i0 (.int .i64 0) 1 8 Try.underlying41 hif hz0 hz1 hz2 rfl (by decide) u6 k (rowOf R k) rfl (HO5.out.alloc _) ⟨_, 0, none⟩ 1 1 [.int .i64 r] rfl rfl (cell_one_new _ _ _) (by simp [Value.oneCell']) (by unfold maxLen; omega) (by omega) (by simp; omega) ?_; intro v6 wb hown2 hgrow2 _ hat2)
        have HO6 : Hid (wb.ownsRow w0.heap.size 3 1 v6 (k + 1) (rowOf R (k + 1))) := Lib.hid (by rw [← rowOf_succ, ← HRR.out]; exact hown2)
        have HS6 : Hid (wb.ownsRow w0.heap.size 3 1 v7 (k + 1) (rowOf X (k + 1))) := Lib.hid (Apart.kept (HS5.out.alloc _) HAP2.out hgrow2)
        have HAP6 : Hid (Apart v6 v7) := Lib.hid (Apart.step HS5.out (by simp) HAP2.out hat2)
        have HL6 : Hid (Below w0.heap.size w0 wb) := Lib.hid ((HL5.out.trans (Below.mono (below_alloc _ _) hwe)).grown hgrow2 (by simp; omega) (fun j hj => (HO5.out.lt j hj).1))
        clear hown2 hgrow2 hat2 HO5 HS5 HAP2 HL5
        go_wp2_with fail
        go_roundw
        case rel => exact ⟨k + 1, by omega, by go_num, by rw [HYY.out], fun h => (by cases h), HO6.out, HS6.out, HAP6.out, HL6.out⟩
        case measure => simp [intOf]; omega
end Go.Proofs.Ytnmocdfogdcliaa
