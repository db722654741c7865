/- Contracts of the small functions: rising, ranges, Check of both. Contracts of the reference's small functions and of its Check. Contracts of the reference's kept and before. Contracts of the reference's asked and SameRanges. -/
import Derived.Test.YtonkjnkokikpgaaGreatModel
import Derived.Test.YtonkjnkokikpgaaGreatGrow
import Derived.IntWalk
import Derived.Deep.QuietTactic
import Derived.BigQuiet
import Derived.Laws.Rows
import Derived.RegionTactic
import Derived.BigRegion
import Derived.StillTailTactics
import Derived.Deep.RegionHeld3
import Derived.Deep.DeepCutAuto
namespace Go.Proofs.YtonkjnkokikpgaaGreat
open Go.RowKit

theorem quiet_l {P : Program} {f : FuncId} {args : Array Value} {w : World} {n : Nat} {v : Value}
    (h : Calls P f args (w.drewN n) fun e w' => e = .returned v ∧ w.drewN n = w') : Calls P f args (w.drewN n) fun e w'' => e = .returned v ∧ ∃ m, w'' = w.drewN m :=
  h.mono fun _ _ ⟨he, hm⟩ => ⟨he, n, hm.symm⟩

set_option maxRecDepth 100000 in
set_option maxHeartbeats 4000000 in
theorem rising_35 (A : Option Addr) (n c B : Nat) (f : Nat → Int) (w : World) (hn : n ≤ 1000) (hr : Rd w B A n (fun j => .int .i64 (f j))) :
    Calls Tryz.prog 52 #[.slice A n c] w fun e w' => e = .returned (.bool (risB f n)) ∧ ∃ k, w' = w.drewN k := by
  have HR := Lib.hid hr
  clear hr
  have hn' : (n : Int) ≤ 1000 := by omega
  go_enter Tryz.func52, Tryz.ntmps52
  go_wp2_with fail
  go_loopw [3] (fun i wr => ∃ k : Nat, 1 ≤ k ∧ i = .int .i64 k ∧ Hid (∀ j, j ≤ k → risB f j = true) ∧ (n = 0 ∨ k ≤ n) ∧ ∃ m, wr = w.drewN m) (fun i _ => n - (intOf i).toNat)
  case atStart =>
    refine ⟨1, Nat.le_refl _, rfl, Lib.hid fun j hj => ?_, by omega, 0, rfl⟩
    match j, hj with
    | 0, _ => rfl
    | 1, _ => rfl
  case round =>
    obtain ⟨k, hk1, rfl, HK, hkn, m, rfl⟩ := hrel
    have HQ : Hid (∀ r, ∃ t, (w.drewN m).drewN r = w.drewN t) := Lib.hid fun r => ⟨m + r, by simp [World.drewN_drewN]⟩
    have HX := Lib.hid (Rd.drewN HR.out m)
    generalize w.drewN m = w1 at *
    by_cases hlt : k < n
    · have hlt' : (k : Int) < n := by omega
      obtain ⟨b, o, rfl, _, cs⟩ := HX.out (by omega)
      have ck := cs k hlt
      obtain ⟨j, rfl⟩ : ∃ j, k = j + 1 := ⟨k - 1, by omega⟩
      have cj := cs j (by omega)
      clear cs
      have hwj : IntKind.i64.wrap (((j + 1 : Nat) : Int) - 1) = j := by rw [show ((j + 1 : Nat) : Int) - 1 = j by omega]; exact IntWalk.i64_in _ ⟨by omega, by omega⟩
      by_cases h1 : f (j + 1) < f j
      · have HV : Hid (risB f n = false) := Lib.hid (risB_bad (k := j + 1) (by omega) (by rw [Nat.add_sub_cancel]; exact h1) n hlt)
        go_upto_region 4 with fail
        go_quiet (fail)
        go_wp2_with fail
        go_ret
        exact ⟨ret_bool HV.out.symm, HQ.out _⟩
      · have h1' : f j ≤ f (j + 1) := by omega
        have HV : Hid (∀ i, i ≤ j + 1 + 1 → risB f i = true) := Lib.hid fun i hi => by
          by_cases e : i ≤ j + 1
          · exact HK.out i e
          · obtain rfl : i = j + 1 + 1 := by omega
            rw [risB, HK.out (j + 1) (Nat.le_refl _), Bool.true_and, Nat.add_sub_cancel]
            simp [h1']
        have h1d : decide (f (j + 1) < f j) = false := by simpa using h1
        go_upto_region 4 with fail
        go_quiet (fail)
        go_wp2_with fail
        go_roundw
        case rel => exact ⟨j + 1 + 1, by omega, by go_num, HV, by omega, HQ.out _⟩
        case measure => simp [intOf]; omega
    · have HV : Hid (risB f n = true) := Lib.hid (HK.out n (by omega))
      go_wp2_with fail
      go_ret
      exact ⟨ret_bool HV.out.symm, HQ.out 0⟩

theorem rise3 (W : World) (a b c : Int) : Calls Tryz.prog 52 #[.slice (some ⟨W.heap.size, 0, none⟩) 3 3] (W.alloc (.cells #[.int .i64 a, .int .i64 b, .int .i64 c] 3)) fun e w' => e = .returned (.bool (ri3 a b c)) ∧ Below W.heap.size W w' := by
  have h1 := rd_new W #[.int .i64 a, .int .i64 b, .int .i64 c] 3 (fun j => .int .i64 ([a, b, c].getD j 0)) (fun j hj => by
    match j, hj with
    | 0, _ => rfl
    | 1, _ => rfl
    | 2, _ => rfl)
  refine (rising_35 _ 3 3 _ _ _ (by omega) h1).mono fun e w' h => ⟨?_, below_quiet (below_alloc _ _) h.2⟩
  rw [h.1]
  exact ret_bool (by simp [risB, ri3])
theorem rise4 (W : World) (a b c d : Int) : Calls Tryz.prog 52 #[.slice (some ⟨W.heap.size, 0, none⟩) 4 4] (W.alloc (.cells #[.int .i64 a, .int .i64 b, .int .i64 c, .int .i64 d] 3)) fun e w' => e = .returned (.bool (ri4 a b c d)) ∧ Below W.heap.size W w' := by
  have h1 := rd_new W #[.int .i64 a, .int .i64 b, .int .i64 c, .int .i64 d] 3 (fun j => .int .i64 ([a, b, c, d].getD j 0)) (fun j hj => by
    match j, hj with
    | 0, _ => rfl
    | 1, _ => rfl
    | 2, _ => rfl
    | 3, _ => rfl)
  refine (rising_35 _ 4 4 _ _ _ (by omega) h1).mono fun e w' h => ⟨?_, below_quiet (below_alloc _ _) h.2⟩
  rw [h.1]
  exact ret_bool (by simp [risB, ri4, Bool.and_assoc])

set_option maxRecDepth 100000 in
theorem has_38 (L H x : Int) (w : World) : Calls Tryz.prog 34 #[.agg #[.int .i64 L, .int .i64 H], .int .i64 x] w fun e w' => e = .returned (.bool (ri3 L x H)) ∧ Below w.heap.size w w' := by
  go_enter Tryz.func34, Tryz.ntmps34
  go_upto_region 1 with fail
  obtain ⟨w0, hw0⟩ : ∃ zz, zz = w.alloc (.cells #[.int .i64 L, .int .i64 H] 53) := ⟨_, rfl⟩
  have HK0 : Hid (Blk w0 w.heap.size 53 #[.int .i64 L, .int .i64 H]) := Lib.hid (hw0 ▸ Blk.new _ _ _)
  have HB0 : Hid (Below w.heap.size w w0) := Lib.hid (hw0 ▸ below_alloc _ _)
  rw [← hw0]
  clear hw0
  have c0 : w0.cell? ⟨w.heap.size, 0, none⟩ = some (.int .i64 L) := HK0.out.cell 0
  have c1 : w0.cell? ⟨w.heap.size, 1, none⟩ = some (.int .i64 H) := HK0.out.cell 1
  go_wp2_with fail
  refine (rise3 _ _ _ _).mono ?_
  rintro e w1 ⟨rfl, hb⟩
  have HB1 := Lib.hid (HB0.out.trans (hb.mono HB0.out.size))
  go_wp2_with fail
  go_ret
  exact ⟨rfl, HB1.out⟩

set_option maxRecDepth 100000 in
set_option maxHeartbeats 8000000 in
theorem Check_14 {PA : Option Addr} {n pc : Nat} {cp st fl : Int} {lo hi dm ou sp : Nat → Int} (B : Nat) (w : World) (hn : n ≤ 9223372036854775807) (hB : B ≤ w.heap.size) (hr : Rd w B PA (n * 5) (psc lo hi dm ou sp)) :
    Calls Tryz.prog 28 #[(.agg #[.int .i64 cp, .int .i64 st, .int .i64 fl, .slice PA n pc])] w fun e w' => e = .returned (.int .i64 (chkE cp st fl n lo hi dm ou sp)) ∧ Below w.heap.size w w' := by
  have HR := Lib.hid hr
  clear hr
  obtain ⟨w0, hw0⟩ : ∃ zz, zz = w.alloc (.cells #[.int .i64 cp, .int .i64 st, .int .i64 fl, .slice PA n pc] 30) := ⟨_, rfl⟩
  have HK0 : Hid (Blk w0 w.heap.size 30 #[.int .i64 cp, .int .i64 st, .int .i64 fl, .slice PA n pc]) := Lib.hid (hw0 ▸ Blk.new _ _ _)
  have HB0 : Hid (Below w.heap.size w w0) := Lib.hid (hw0 ▸ below_alloc _ _)
  have HW := Lib.hid hw0
  clear hw0
  have c0 : w0.cell? ⟨w.heap.size, 0, none⟩ = some (.int .i64 cp) := HK0.out.cell 0
  have c1 : w0.cell? ⟨w.heap.size, 1, none⟩ = some (.int .i64 st) := HK0.out.cell 1
  have c2 : w0.cell? ⟨w.heap.size, 2, none⟩ = some (.int .i64 fl) := HK0.out.cell 2
  have c3 : w0.cell? ⟨w.heap.size, 3, none⟩ = some (.slice PA n pc) := HK0.out.cell 3
  obtain ⟨bT, hbT⟩ : ∃ bT, bT = okT cp st fl := ⟨_, rfl⟩
  have HT : Hid (bT = (ri4 0 st cp 1099511627776 && ri3 0 fl cp)) := Lib.hid hbT
  have HE2 : Hid (64 < n → (chkE cp st fl n lo hi dm ou sp) = 2) := Lib.hid fun h => by rw [chkE, if_pos h]
  have HE3 : Hid (¬ 64 < n → (chkE cp st fl n lo hi dm ou sp) = if (bT && okN lo hi dm ou sp n) = true then 0 else 390) := Lib.hid fun h => by rw [chkE, if_neg h, hbT]
  clear hbT
  generalize (chkE cp st fl n lo hi dm ou sp) = E at HE2 HE3 ⊢
  go_enter Tryz.func28, Tryz.ntmps28
  go_upto_region 1 with fail
  rw [← HW.out]
  by_cases h64 : 64 < n
  · have h64' : (64 : Int) < n := by omega
    have HE := Lib.hid (HE2.out h64)
    go_wp2_with fail
    go_ret
    exact ⟨ret_int HE.out.symm, HB0.out⟩
  have h64' : (n : Int) ≤ 64 := by omega
  have HE := Lib.hid (HE3.out h64)
  clear HE2 HE3 h64
  go_upto_region 3 with fail
  go_cut [3] (fun s3 wc => s3 = .bool bT ∧ Below w0.heap.size w0 wc)
  case first =>
    go_wp2_with fail
    refine (rise4 _ _ _ _ _).mono ?_
    rintro e w1 ⟨rfl, hb⟩
    have HB1 := Lib.hid hb
    clear c0 c1 c2 c3
    have c0 : w1.cell? ⟨w.heap.size, 0, none⟩ = some (.int .i64 cp) := (HK0.out.below hb HK0.out.lt).cell 0
    have c2 : w1.cell? ⟨w.heap.size, 2, none⟩ = some (.int .i64 fl) := (HK0.out.below hb HK0.out.lt).cell 2
    clear hb
    cases h1 : ri4 0 st cp 1099511627776
    · have HV : Hid (false = bT) := Lib.hid (by rw [HT.out, h1]; rfl)
      clear h1
      go_wp2_with fail
      go_meet
      case rel => exact ⟨by rw [HV.out], HB1.out⟩
    · have HV : Hid (ri3 0 fl cp = bT) := Lib.hid (by rw [HT.out, h1]; rfl)
      clear h1
      go_wp2_with fail
      refine (rise3 _ _ _ _).mono ?_
      rintro e w2 ⟨rfl, hb⟩
      have HB2 := Lib.hid (HB1.out.trans (hb.mono HB1.out.size))
      clear hb
      go_wp2_with fail
      go_meet
      case rel => exact ⟨by rw [HV.out], HB2.out⟩
  case rest =>
    obtain ⟨rfl, hb⟩ := hcut
    obtain ⟨v0, hyy⟩ : ∃ y, y = wc := ⟨_, rfl⟩
    subst hyy
    have HK1 := Lib.hid (HK0.out.below hb HK0.out.lt)
    have HB1 := Lib.hid (HB0.out.trans (hb.mono HB0.out.size))
    clear hb HK0 HB0 c0 c1 c2 c3 HW
    have hs1 := HK1.out.lt
    have hz1 := HB1.out.size
    have c3 : v0.cell? ⟨w.heap.size, 2 + 1, none⟩ = some (.slice PA n pc) := HK1.out.cell 3
    go_wp2_with fail
    clear c3
    go_loopw [3, 30] (fun s3 i wr => ∃ k : Nat, k ≤ n ∧ i = .int .i64 k ∧ s3 = .bool (bT && okN lo hi dm ou sp k) ∧ Below v0.heap.size v0 wr) (fun _ i _ => n - (intOf i).toNat)
    case atStart => exact ⟨0, Nat.zero_le _, rfl, by simp [okN], Below.refl _ _⟩
    case round =>
      obtain ⟨k, hk, rfl, rfl, hb⟩ := hrel
      have HBL := Lib.hid hb
      have HB2 := Lib.hid (HB1.out.trans (hb.mono hz1))
      have hz2 := hb.size
      clear hb
      by_cases hlt : k < n
      · have hlt' : (k : Int) < n := by omega
        obtain ⟨b, o, e, _, p0, p1, p2, p3, p4⟩ := per_at (HR.out.below (HB2.out.mono hB)) hlt
        subst e
        have HN : Hid (okN lo hi dm ou sp (k + 1) = (okN lo hi dm ou sp k && ((ri4 0 (lo k) (hi k) 1099511627776 && ri4 0 (dm k) (ou k) 1099511627776) && ri3 0 (sp k) 1099511627776))) := Lib.hid rfl
        generalize okN lo hi dm ou sp k = bk at HN ⊢
        generalize lo k = x0 at *
        generalize hi k = x1 at *
        generalize dm k = x2 at *
        generalize ou k = x3 at *
        generalize sp k = x4 at *
        go_upto_region 7 with fail
        obtain ⟨v1, hv1⟩ : ∃ zz, zz = wr.alloc (.cells #[.int .i64 x0, .int .i64 x1, .int .i64 x2, .int .i64 x3, .int .i64 x4] 55) := ⟨_, rfl⟩
        have HX1 : Hid (Blk v1 wr.heap.size 55 #[.int .i64 x0, .int .i64 x1, .int .i64 x2, .int .i64 x3, .int .i64 x4]) := Lib.hid (hv1 ▸ Blk.new _ _ _)
        have HL1 : Hid (Below v0.heap.size v0 v1) := Lib.hid (hv1 ▸ HBL.out.alloc hz2 _)
        rw [← hv1]
        clear hv1 p0 p1 p2 p3 p4 HBL HB2
        have q0 : v1.cell? ⟨wr.heap.size, 0, none⟩ = some (.int .i64 x0) := HX1.out.cell 0
        have q1 : v1.cell? ⟨wr.heap.size, 1, none⟩ = some (.int .i64 x1) := HX1.out.cell 1
        have q2 : v1.cell? ⟨wr.heap.size, 2, none⟩ = some (.int .i64 x2) := HX1.out.cell 2
        have q3 : v1.cell? ⟨wr.heap.size, 3, none⟩ = some (.int .i64 x3) := HX1.out.cell 3
        have q4 : v1.cell? ⟨wr.heap.size, 4, none⟩ = some (.int .i64 x4) := HX1.out.cell 4
        cases hcur : (bT && bk)
        · have HV : Hid ((bT && okN lo hi dm ou sp (k + 1)) = false) := Lib.hid (by rw [HN.out, ← Bool.and_assoc, hcur, Bool.false_and])
          go_wp2_with fail
          go_roundw
          case rel => exact ⟨k + 1, by omega, by go_num, by rw [HV.out], HL1.out⟩
          case measure => simp [intOf]; omega
        have HC : Hid ((bT && okN lo hi dm ou sp (k + 1)) = ((ri4 0 x0 x1 1099511627776 && ri4 0 x2 x3 1099511627776) && ri3 0 x4 1099511627776)) := Lib.hid (by rw [HN.out, ← Bool.and_assoc, hcur, Bool.true_and])
        clear hcur
        go_wp2_with fail
        refine (rise4 _ _ _ _ _).mono ?_
        rintro e v2 ⟨rfl, hb⟩
        have HX2 := Lib.hid (HX1.out.below hb HX1.out.lt)
        have HL2 := Lib.hid (HL1.out.trans (hb.mono HL1.out.size))
        clear hb q0 q1 q2 q3 q4 HX1 HL1
        have q2 : v2.cell? ⟨wr.heap.size, 2, none⟩ = some (.int .i64 x2) := HX2.out.cell 2
        have q3 : v2.cell? ⟨wr.heap.size, 3, none⟩ = some (.int .i64 x3) := HX2.out.cell 3
        cases h1 : ri4 0 x0 x1 1099511627776
        · have HV : Hid ((bT && okN lo hi dm ou sp (k + 1)) = false) := Lib.hid (by rw [HC.out, h1]; rfl)
          go_wp2_with fail
          go_roundw
          case rel => exact ⟨k + 1, by omega, by go_num, by rw [HV.out], HL2.out⟩
          case measure => simp [intOf]; omega
        go_wp2_with fail
        refine (rise4 _ _ _ _ _).mono ?_
        rintro e v3 ⟨rfl, hb⟩
        have HX3 := Lib.hid (HX2.out.below hb HX2.out.lt)
        have HL3 := Lib.hid (HL2.out.trans (hb.mono HL2.out.size))
        clear hb q2 q3 HX2 HL2
        have q4 : v3.cell? ⟨wr.heap.size, 4, none⟩ = some (.int .i64 x4) := HX3.out.cell 4
        cases h2 : ri4 0 x2 x3 1099511627776
        · have HV : Hid ((bT && okN lo hi dm ou sp (k + 1)) = false) := Lib.hid (by rw [HC.out, h2, Bool.and_false]; rfl)
          go_wp2_with fail
          go_roundw
          case rel => exact ⟨k + 1, by omega, by go_num, by rw [HV.out], HL3.out⟩
          case measure => simp [intOf]; omega
        have HV : Hid ((bT && okN lo hi dm ou sp (k + 1)) = ri3 0 x4 1099511627776) := Lib.hid (by rw [HC.out, h1, h2]; rfl)
        go_wp2_with fail
        refine (rise3 _ _ _ _).mono ?_
        rintro e v4 ⟨rfl, hb⟩
        have HL4 := Lib.hid (HL3.out.trans (hb.mono HL3.out.size))
        clear hb q4
        go_wp2_with fail
        go_roundw
        case rel => exact ⟨k + 1, by omega, by go_num, by rw [HV.out], HL4.out⟩
        case measure => simp [intOf]; omega
      · obtain rfl : k = n := by omega
        cases hbb : (bT && okN lo hi dm ou sp k)
        · have HV : Hid (E = 390) := Lib.hid (by rw [HE.out, hbb]; rfl)
          go_wp2_with fail
          go_ret
          exact ⟨ret_int HV.out.symm, HB2.out⟩
        · have HV : Hid (E = 0) := Lib.hid (by rw [HE.out, hbb]; rfl)
          go_wp2_with fail
          go_ret
          exact ⟨ret_int HV.out.symm, HB2.out⟩
end Go.Proofs.YtonkjnkokikpgaaGreat
namespace Go.Proofs.YtonkjnkokikpgaaGreat
open Go.RowKit

theorem ri4_parts (a b c d : Int) : ri4 a b c d = (ri3 a b c && decide (c ≤ d)) := rfl

end Go.Proofs.YtonkjnkokikpgaaGreat
namespace Go.Proofs.YtonkjnkokikpgaaGreat
open Go.RowKit

theorem results_cell_row {P : Program} {fn : Func} {p : Tmp} {ty : TypeId} (h : fn.results = #[.cell p ty]) (tmps : Array Value) (w : World) (g : Nat) (t : TypeId) (cs : Array Value) (fr : Nat × Nat) (d : TypeDesc)
    (hp : tmps.getD p undef = .pointer (some ⟨g, 0, none⟩)) (hg : w.heap[g]? = some (.cells cs t fr))
    (hu : P.underlying ty = some d) (hd : (match d with | .struct _ | .array _ _ => true | _ => false) = true) (hi : (P.info? ty).map (·.size) = some cs.size) :
    (results fn tmps).run P w = .ok (.agg cs) w := by
  have hp' : tmps[p]?.getD undef = .pointer (some ⟨g, 0, none⟩) := by simpa using hp
  simp [results, h, hp', asAddr, run_loadVar_row w g t ty cs fr d hg hu hd hi]

/-- a right course, its bounds -/
def Good (cp fl : Int) (n : Nat) (lo hi dm ou sp : Nat → Int) : Prop := n ≤ 64 ∧ (0 ≤ cp ∧ cp ≤ 1099511627776) ∧ (0 ≤ fl ∧ fl ≤ cp) ∧ ∀ j, j < n → (0 ≤ lo j ∧ lo j ≤ hi j ∧ hi j ≤ 1099511627776) ∧ (0 ≤ dm j ∧ dm j ≤ ou j ∧ ou j ≤ 1099511627776) ∧ 0 ≤ sp j ∧ sp j ≤ 1099511627776
theorem good_of {cp st fl : Int} {n : Nat} {lo hi dm ou sp : Nat → Int} (h : (chkE cp st fl n lo hi dm ou sp) = 0) : Good cp fl n lo hi dm ou sp := by
  obtain ⟨h1, h2, h3, h4⟩ := chk_zero h
  exact ⟨h1, ⟨by omega, h2.2.2⟩, h3, fun j hj => okP_iff.1 (h4 j hj)⟩

end Go.Proofs.YtonkjnkokikpgaaGreat
namespace Go.Proofs.YtonkjnkokikpgaaGreat
open Go.RowKit

/-- the cells of ranges: two each -/
def rsc (f : Nat → Int × Int) (j : Nat) : Value := if j % 2 = 0 then .int .i64 (f (j / 2)).1 else .int .i64 (f (j / 2)).2
theorem rsc_0 (f : Nat → Int × Int) (j : Nat) : rsc f (j * 2) = .int .i64 (f j).1 := by
  unfold rsc; rw [if_pos (by omega), show j * 2 / 2 = j by omega]
theorem rsc_1 (f : Nat → Int × Int) (j : Nat) : rsc f (j * 2 + 1) = .int .i64 (f j).2 := by
  unfold rsc; rw [if_neg (by omega), show (j * 2 + 1) / 2 = j by omega]
/-- a range -/
theorem rng_at {w : World} {B : Nat} {A : Option Addr} {n : Nat} {f : Nat → Int × Int} (h : Rd w B A (n * 2) (rsc f)) {j : Nat} (hj : j < n) : ∃ b off, A = some ⟨b, off, none⟩ ∧ b < B ∧ w.cell? ⟨b, off + j * 2, none⟩ = some (.int .i64 (f j).1) ∧ w.cell? ⟨b, off + j * 2 + 1, none⟩ = some (.int .i64 (f j).2) := by
  obtain ⟨b, off, e, hb, hc⟩ := h (by omega)
  refine ⟨b, off, e, hb, ?_, ?_⟩
  · rw [hc (j * 2) (by omega), rsc_0]
  · rw [Nat.add_assoc, hc (j * 2 + 1) (by omega), rsc_1]

/-- the error of what was asked -/
def askE (cp st fl : Int) (n : Nat) (lo hi dm ou sp : Nat → Int) (t x : Int) : Int :=
  if ¬ chkE cp st fl n lo hi dm ou sp = 0 then chkE cp st fl n lo hi dm ou sp else if t < 0 ∨ (n : Int) ≤ t then 1 else if ri3 0 x cp = false then 1 else 0

end Go.Proofs.YtonkjnkokikpgaaGreat
