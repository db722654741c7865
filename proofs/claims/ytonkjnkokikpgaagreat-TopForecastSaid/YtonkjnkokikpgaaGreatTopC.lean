/- The top: words for ensembles; contracts of few39 and bounds39. The top: contract of calibrated39. The top: contract of calibrated39, the walk. -/
import Derived.Test.YtonkjnkokikpgaaGreatRanges
import Derived.Test.YtonkjnkokikpgaaGreatMargin
import Derived.BigQuiet
namespace Go.Proofs.YtonkjnkokikpgaaGreat
open Go.RowKit

/-- ensembles -/
structure EnssF where
  bd : Nat → Int
  md : Nat → Int
  eA : Nat → Option Addr
  en : Nat → Nat
  ec : Nat → Nat
  ex : Nat → EnsF
def EnssF.cells (x : EnssF) (j : Nat) : Value :=
  if j % 3 = 0 then .int .i64 (x.bd (j / 3)) else if j % 3 = 1 then .int .i64 (x.md (j / 3)) else .slice (x.eA (j / 3)) (x.en (j / 3)) (x.ec (j / 3))
def EnssRd (w : World) (B : Nat) (A : Option Addr) (n : Nat) (x : EnssF) : Prop :=
  Rd w B A (n * 3) x.cells ∧ ∀ j, j < n → EnsRd w B (x.eA j) (x.en j) (x.ex j) ∧ x.en j ≤ 9223372036854775807
theorem EnssRd.below {w w' : World} {B : Nat} {A : Option Addr} {n : Nat} {x : EnssF} (h : EnssRd w B A n x) (hb : Below B w w') : EnssRd w' B A n x :=
  ⟨h.1.below hb, fun j hj => ⟨(h.2 j hj).1.below hb, (h.2 j hj).2⟩⟩
theorem ens_at {w : World} {B : Nat} {A : Option Addr} {n : Nat} {x : EnssF} (h : EnssRd w B A n x) {j : Nat} (hj : j < n) :
    ∃ b off, A = some ⟨b, off, none⟩ ∧ b < B ∧ w.cell? ⟨b, off + j * 3, none⟩ = some (.int .i64 (x.bd j)) ∧ w.cell? ⟨b, off + j * 3 + 1, none⟩ = some (.int .i64 (x.md j)) ∧ w.cell? ⟨b, off + j * 3 + 2, none⟩ = some (.slice (x.eA j) (x.en j) (x.ec j)) := by
  obtain ⟨b, off, e, hb, hc⟩ := h.1 (by omega)
  refine ⟨b, off, e, hb, ?_, ?_, ?_⟩
  · rw [hc (j * 3) (by omega)]; unfold EnssF.cells; rw [if_pos (by omega), show j * 3 / 3 = j by omega]
  · rw [Nat.add_assoc, hc (j * 3 + 1) (by omega)]; unfold EnssF.cells; rw [if_neg (by omega), if_pos (by omega), show (j * 3 + 1) / 3 = j by omega]
  · rw [Nat.add_assoc, hc (j * 3 + 2) (by omega)]; unfold EnssF.cells; rw [if_neg (by omega), if_neg (by omega), show (j * 3 + 2) / 3 = j by omega]

/-- what few39 answers -/
def FewR (n : Nat) (e : Ending) : Prop := ∃ b : Bool, e = .returned (.bool b) ∧ (b = true → n ≤ 4)

set_option maxRecDepth 100000 in
set_option maxHeartbeats 2000000 in
theorem few_5 (A C : Option Addr) (n c m d B : Nat) (x : EnssF) (p : PastF) (w : World) (hn : n ≤ 9223372036854775807) (hm : m ≤ 9223372036854775807) (hB : B ≤ w.heap.size) (hr : EnssRd w B A n x) (hp : PastRd w B C m p) :
    Calls Tryz.prog 5 #[.slice A n c, .slice C m d] w fun e w' => FewR n e ∧ Below w.heap.size w w' := by
  have HR := Lib.hid hr
  have HP := Lib.hid hp
  clear hr hp
  go_enter Tryz.func5, Tryz.ntmps5
  by_cases h1 : 4 < (n : Int)
  · have h1d : decide (4 < (n : Int)) = true := by simpa using h1
    clear h1
    go_wp2_with fail
    go_ret
    exact ⟨⟨false, rfl, fun h => by cases h⟩, Below.refl _ _⟩
  have h1d : decide (4 < (n : Int)) = false := by simpa using h1
  have HN4 : Hid (n ≤ 4) := Lib.hid (by omega)
  clear h1
  by_cases h2 : 40 < (m : Int)
  · have h2d : decide (40 < (m : Int)) = true := by simpa using h2
    clear h2
    go_wp2_with fail
    go_ret
    exact ⟨⟨false, rfl, fun h => by cases h⟩, Below.refl _ _⟩
  have h2d : decide (40 < (m : Int)) = false := by simpa using h2
  clear h2
  go_wp2_with fail
  go_loopw [21] (fun i wr => ∃ k : Nat, k ≤ n ∧ i = .int .i64 k ∧ Hid (Below w.heap.size w wr)) (fun i _ => n - (intOf i).toNat)
  case atStart => exact ⟨0, Nat.zero_le _, rfl, Lib.hid (Below.refl _ _)⟩
  case round =>
    obtain ⟨k, hk, rfl, HD⟩ := hrel
    have hzr := HD.out.size
    by_cases hlt : ¬ k < n
    · have hlt' : ¬ (k : Int) < (n : Int) := by omega
      go_wp2_with fail
      go_loopw [43] (fun i wr => ∃ q : Nat, q ≤ m ∧ i = .int .i64 q ∧ Hid (Below w.heap.size w wr)) (fun i _ => m - (intOf i).toNat)
      case atStart => exact ⟨0, Nat.zero_le _, rfl, HD⟩
      case round =>
        clear HD hzr
        obtain ⟨q, hq, rfl, HD⟩ := hrel
        have hzr := HD.out.size
        by_cases hlq : ¬ q < m
        · have hlq' : ¬ (q : Int) < (m : Int) := by omega
          go_wp2_with fail
          go_ret
          exact ⟨⟨true, rfl, fun _ => HN4.out⟩, HD.out⟩
        have hlq : q < m := by omega
        have hlq' : (q : Int) < (m : Int) := by omega
        have hcc := (HP.out.below (HD.out.mono hB)).1
        unfold PastF.cells at hcc
        obtain ⟨rb, ro, rfl, _, r0, r1, r2⟩ := pcc_at hcc hlq
        clear hcc
        generalize p.bd q = x0 at *
        generalize p.rA q = x1 at *
        generalize p.rn q = x2 at *
        generalize p.rc q = x3 at *
        generalize p.sA q = x4 at *
        generalize p.sn q = x5 at *
        generalize p.sc q = x6 at *
        go_upto_region 18 with fail
        obtain ⟨e1, he1⟩ : ∃ zz, zz = wr.alloc (.cells #[.int .i64 x0, .slice x1 x2 x3, .slice x4 x5 x6] 49) := ⟨_, rfl⟩
        have HX1 : Hid (Blk e1 wr.heap.size 49 #[.int .i64 x0, .slice x1 x2 x3, .slice x4 x5 x6]) := Lib.hid (he1 ▸ Blk.new _ _ _)
        have HL1 : Hid (Below w.heap.size w e1) := Lib.hid (he1 ▸ HD.out.alloc hzr _)
        rw [← he1]
        clear he1 r0 r1 r2 HD
        have y1 : e1.cell? ⟨wr.heap.size, 1, none⟩ = some (.slice x1 x2 x3) := HX1.out.cell 1
        have y2 : e1.cell? ⟨wr.heap.size, 2, none⟩ = some (.slice x4 x5 x6) := HX1.out.cell 2
        by_cases h3 : 8 < (x2 : Int)
        · have h3d : decide (8 < (x2 : Int)) = true := by simpa using h3
          clear h3
          go_wp2_with fail
          go_ret
          exact ⟨⟨false, rfl, fun h => by cases h⟩, HL1.out⟩
        have h3d : decide (8 < (x2 : Int)) = false := by simpa using h3
        clear h3
        by_cases h3 : 8 < (x5 : Int)
        · have h4d : decide (8 < (x5 : Int)) = true := by simpa using h3
          clear h3
          go_wp2_with fail
          go_ret
          exact ⟨⟨false, rfl, fun h => by cases h⟩, HL1.out⟩
        have h4d : decide (8 < (x5 : Int)) = false := by simpa using h3
        clear h3
        go_wp2_with fail
        go_roundw
        case rel => exact ⟨q + 1, by omega, by go_num, HL1⟩
        case measure => simp [intOf]; omega
    have hlt : k < n := by omega
    have hlt' : (k : Int) < (n : Int) := by omega
    have hes := HR.out.below (HD.out.mono hB)
    have HEN := Lib.hid ((HR.out.2 k hlt).1)
    obtain ⟨rb, ro, rfl, _, r0, r1, r2⟩ := ens_at hes hlt
    clear hes
    generalize x.bd k = x0 at *
    generalize x.md k = x1 at *
    generalize x.eA k = x2 at *
    generalize x.en k = x3 at *
    generalize x.ec k = x4 at *
    generalize x.ex k = y at *
    go_upto_region 6 with fail
    obtain ⟨e1, he1⟩ : ∃ zz, zz = wr.alloc (.cells #[.int .i64 x0, .int .i64 x1, .slice x2 x3 x4] 40) := ⟨_, rfl⟩
    have HX1 : Hid (Blk e1 wr.heap.size 40 #[.int .i64 x0, .int .i64 x1, .slice x2 x3 x4]) := Lib.hid (he1 ▸ Blk.new _ _ _)
    have HL1 : Hid (Below w.heap.size w e1) := Lib.hid (he1 ▸ HD.out.alloc hzr _)
    rw [← he1]
    clear he1 r0 r1 r2 HD
    have y2 : e1.cell? ⟨wr.heap.size, 2, none⟩ = some (.slice x2 x3 x4) := HX1.out.cell 2
    have y2' : e1.cell? ⟨wr.heap.size, 1 + 1, none⟩ = some (.slice x2 x3 x4) := HX1.out.cell 2
    by_cases h3 : 12 < (x3 : Int)
    · have h3d : decide (12 < (x3 : Int)) = true := by simpa using h3
      go_wp2_with fail
      go_ret
      exact ⟨⟨false, rfl, fun h => by cases h⟩, HL1.out⟩
    have h3d : decide (12 < (x3 : Int)) = false := by simpa using h3
    go_wp2_with fail
    go_loopw [32] (fun i wr => ∃ q : Nat, q ≤ x3 ∧ i = .int .i64 q ∧ Hid (Below e1.heap.size e1 wr)) (fun i _ => x3 - (intOf i).toNat)
    case atStart => exact ⟨0, Nat.zero_le _, rfl, Lib.hid (Below.refl _ _)⟩
    case round =>
      obtain ⟨q, hq, rfl, HD2⟩ := hrel
      have HD := Lib.hid (HL1.out.trans (HD2.out.mono HL1.out.size))
      clear y2 y2'
      by_cases hlq : ¬ q < x3
      · have hlq' : ¬ (q : Int) < (x3 : Int) := by omega
        go_wp2_with fail
        go_roundw
        case rel => exact ⟨k + 1, by omega, by go_num, HD⟩
        case measure => simp [intOf]; omega
      have hlq : q < x3 := by omega
      have hlq' : (q : Int) < (x3 : Int) := by omega
      obtain ⟨mb, mo, rfl, _, hc⟩ := (HEN.out.below (HD.out.mono hB)).1 (by omega)
      have q0 : wr.cell? ⟨mb, mo + q, none⟩ = some (.slice (y.mA q) (y.ml q) (y.mc q)) := hc q hlq
      clear hc
      generalize y.mA q = z1 at *
      generalize y.ml q = z2 at *
      generalize y.mc q = z3 at *
      by_cases h4 : 8 < (z2 : Int)
      · have h4d : decide (8 < (z2 : Int)) = true := by simpa using h4
        go_wp2_with fail
        go_ret
        exact ⟨⟨false, rfl, fun h => by cases h⟩, HD.out⟩
      have h4d : decide (8 < (z2 : Int)) = false := by simpa using h4
      go_wp2_with fail
      go_roundw
      case rel => exact ⟨q + 1, by omega, by go_num, HD2⟩
      case measure => simp [intOf]; omega

theorem wd_right {n : Nat} {f : Nat → Int × Int} {m : Int} (h : rgB n f = true) (hm : 0 ≤ m) : rgB n (wdF f m) = true := by
  rw [rgB_iff] at h ⊢
  refine ⟨h.1, fun i hi => ?_⟩
  have := h.2 i hi
  unfold wdF
  simp only
  omega
theorem lohi_right {bd mk : Int} {n : Nat} {x : EnsF} (h : EFull bd mk n x) {L : Nat} (hL : L = x.ml 0) {f : Nat → Int × Int} (hf : ∀ k, k < L → LoHi (fun i => x.mv i k) n (f k).1 (f k).2) : rgB L f = true := by
  rw [rgB_iff]
  refine ⟨by have := h.1.2.1; omega, fun k hk => ?_⟩
  obtain ⟨⟨⟨i, hi, e1⟩, h1⟩, ⟨j, hj, e2⟩, h2⟩ := hf k hk
  have h3 := h.2.2.2 i hi k (by have := h.1.2.2 i hi; omega)
  have h4 := h.2.2.2 j hj k (by have := h.1.2.2 j hj; omega)
  have h5 : (f k).1 ≤ (f k).2 := by rw [e2]; exact h1 j hj
  have e1' : (f k).1 = x.mv i k := e1
  have e2' : (f k).2 = x.mv j k := e2
  omega
/-- what bounds39 hands back -/
def BouR (H : Nat) (bd mk : Int) (n : Nat) (x : EnsF) (lw hgh : Int) (m : Nat) (p : PastF) (fa of_ : Int) (e : Ending) (w' : World) : Prop :=
  ∃ (D : Option Addr) (L dc : Nat) (E : Int) (f : Nat → Int × Int), e = .returned (.tuple #[.slice D L dc, .int .i64 E]) ∧ L ≤ 16 ∧ w'.ownsRow H 53 2 (.slice D L dc) L (rowR f L) ∧ (E = 0 → rgB L f = true ∧ DGood m p bd fa of_) ∧
    (EFull bd mk n x → lw = 0 → hgh = 0 → DGood m p bd fa of_ → E = 0 ∧ L = x.ml 0 ∧ ∃ (f0 : Nat → Int × Int) (mg : Int), (∀ k, k < L → LoHi (fun i => x.mv i k) n (f0 k).1 (f0 k).2) ∧ f = wdF f0 mg ∧ kpP m p bd fa of_ mg = true ∧ InDist m p bd mg)

set_option maxRecDepth 100000 in
set_option maxHeartbeats 2000000 in
theorem bounds_6 (bd mk lw hgh fa of_ : Int) (A C : Option Addr) (n c m d B : Nat) (x : EnsF) (p : PastF) (w : World) (hn : n ≤ 9223372036854775807) (hm : m ≤ 9223372036854775807) (hlh : -1000000 ≤ lw ∧ lw ≤ 1000000 ∧ -1000000 ≤ hgh ∧ hgh ≤ 1000000) (hB : B ≤ w.heap.size) (hr : EnsRd w B A n x) (hp : PastRd w B C m p) :
    Calls Tryz.prog 6 #[.agg #[.int .i64 bd, .int .i64 mk, .slice A n c], .int .i64 lw, .int .i64 hgh, .slice C m d, .agg #[.int .i64 fa, .int .i64 of_]] w fun e w' => BouR w.heap.size bd mk n x lw hgh m p fa of_ e w' ∧ Below w.heap.size w w' := by
  have HR := Lib.hid hr
  have HP := Lib.hid hp
  have HNIL : Hid (∀ (E : Int) (w' : World), E ≠ 0 → ¬ (EFull bd mk n x ∧ lw = 0 ∧ hgh = 0 ∧ DGood m p bd fa of_) → BouR w.heap.size bd mk n x lw hgh m p fa of_ (.returned (.tuple #[.slice none 0 0, .int .i64 E])) w') := Lib.hid fun E w' hE h =>
    ⟨none, 0, 0, E, fun _ => (0, 0), rfl, by omega, World.ownsRow_nil _ _ _ _, fun h => absurd h hE, fun h1 h2 h3 h4 => absurd ⟨h1, h2, h3, h4⟩ h⟩
  clear hr hp
  go_enter Tryz.func6, Tryz.ntmps6
  go_upto_region 1 with fail
  obtain ⟨w0, hw0⟩ : ∃ zz, zz = (w.alloc (.cells #[.int .i64 bd, .int .i64 mk, .slice A n c] 40)).alloc (.cells #[.int .i64 fa, .int .i64 of_] 25) := ⟨_, rfl⟩
  have HK0 : Hid (Blk w0 w.heap.size 40 #[.int .i64 bd, .int .i64 mk, .slice A n c]) := Lib.hid (hw0 ▸ (Blk.new _ _ _).alloc _)
  have HJ0 : Hid (Blk w0 (w.heap.size + 1) 25 #[.int .i64 fa, .int .i64 of_]) := Lib.hid (hw0 ▸ Blk.new' (by simp))
  have HB0 : Hid (Below w.heap.size w w0) := Lib.hid (hw0 ▸ (below_alloc _ _).alloc (by simp) _)
  rw [← hw0]
  clear hw0
  have hlt0 := HJ0.out.lt
  have t0 : w0.cell? ⟨w.heap.size, 0, none⟩ = some (.int .i64 bd) := HK0.out.cell 0
  have t1 : w0.cell? ⟨w.heap.size, 1, none⟩ = some (.int .i64 mk) := HK0.out.cell 1
  have t2 : w0.cell? ⟨w.heap.size, 2, none⟩ = some (.slice A n c) := HK0.out.cell 2
  have t2' : w0.cell? ⟨w.heap.size, 1 + 1, none⟩ = some (.slice A n c) := HK0.out.cell 2
  go_wp2_with fail
  refine (Bounds_16 bd mk lw hgh A n c B x w0 hn hlh (by omega) (HR.out.below (HB0.out.mono hB))).mono ?_
  rintro e w1 ⟨⟨D, L, dc, E, f, rfl, hL, hrd, hex⟩, hb⟩
  have HRD := Lib.hid hrd
  have HEX := Lib.hid hex
  have HB1 := Lib.hid (HB0.out.trans (hb.mono HB0.out.size))
  have HK1 := Lib.hid (HK0.out.below hb HK0.out.lt)
  have HJ1 := Lib.hid (HJ0.out.below hb HJ0.out.lt)
  clear hrd hex hb HB0 HK0 HJ0 t0 t1 t2 t2'
  by_cases h1 : ¬ E = 0
  · have h1e : (E != 0) = true := by simpa using h1
    have HX : Hid (¬ (EFull bd mk n x ∧ lw = 0 ∧ hgh = 0 ∧ DGood m p bd fa of_)) := Lib.hid fun h => h1 (HEX.out h.1 h.2.1 h.2.2.1).1
    have H1 := Lib.hid h1
    clear h1
    go_wp2_with fail
    refine bodyPost_ret (results_tmp2 rfl _ _ _) rfl ?_
    exact ⟨HNIL.out _ _ H1.out HX.out, HB1.out⟩
  obtain rfl : E = 0 := by omega
  have hlt1 := HJ1.out.lt
  have t0 : w1.cell? ⟨w.heap.size, 0, none⟩ = some (.int .i64 bd) := HK1.out.cell 0
  have j0 : w1.cell? ⟨w.heap.size + 1, 0, none⟩ = some (.int .i64 fa) := HJ1.out.cell 0
  have j1 : w1.cell? ⟨w.heap.size + 1, 1, none⟩ = some (.int .i64 of_) := HJ1.out.cell 1
  go_wp2_with fail
  refine (Margin_7 C m d B p bd fa of_ w1 hm (by omega) (HP.out.below (HB1.out.mono hB))).mono ?_
  rintro e w2 ⟨⟨mg, E, rfl, hE, hM⟩, hb⟩
  have HE := Lib.hid hE
  have HM := Lib.hid hM
  have HB2 := Lib.hid (HB1.out.trans (hb.mono HB1.out.size))
  have HRD2 := Lib.hid (HRD.out.below hb)
  have hz12 := hb.size
  clear hE hM hb HB1 HK1 HJ1 t0 j0 j1 h1
  by_cases h1 : ¬ E = 0
  · have h1e : (E != 0) = true := by simpa using h1
    have HX : Hid (¬ (EFull bd mk n x ∧ lw = 0 ∧ hgh = 0 ∧ DGood m p bd fa of_)) := Lib.hid fun h => h1 (HE.out.2 h.2.2.2)
    have H1 := Lib.hid h1
    clear h1
    go_wp2_with fail
    refine bodyPost_ret (results_tmp2 rfl _ _ _) rfl ?_
    exact ⟨HNIL.out _ _ H1.out HX.out, HB2.out⟩
  obtain rfl : E = 0 := by omega
  have HDG := Lib.hid (HE.out.1 rfl)
  have HMG := Lib.hid (HM.out rfl)
  have hz2 := HB2.out.size
  go_wp2_with fail
  refine (Widen_17 D L dc w1.heap.size f mg w2 (by omega) hz12 HRD2.out).mono ?_
  rintro e w3 ⟨⟨D3, L3, dc3, E3, rfl, hE3, hL3, hl16, hown⟩, hb⟩
  have HE3 := Lib.hid hE3
  have HL3 := Lib.hid hL3
  have HO := Lib.hid hown
  have HB3 := Lib.hid (HB2.out.trans (hb.mono hz2))
  clear hE3 hL3 hown hb
  go_wp2_with fail
  refine bodyPost_ret (results_tmp2 rfl _ _ _) rfl ?_
  refine ⟨⟨D3, L3, dc3, E3, wdF f mg, rfl, hl16, own_weaken HO.out hz2, fun h0 => ?_, fun g1 g2 g3 g4 => ?_⟩, HB3.out⟩
  · have h2 := HL3.out h0
    rw [h2]
    exact ⟨wd_right (HE3.out.1 h0).1 HMG.out.1.1.1, HDG.out⟩
  · obtain ⟨_, q2, q3⟩ := HEX.out g1 g2 g3
    have hE0 := HE3.out.2 ⟨lohi_right g1 q2 q3, HMG.out.1.1⟩
    have h2 := HL3.out hE0
    exact ⟨hE0, by omega, f, mg, fun k hk => q3 k (by omega), rfl, HMG.out.1.2, HMG.out.2⟩
end Go.Proofs.YtonkjnkokikpgaaGreat
namespace Go.Proofs.YtonkjnkokikpgaaGreat
open Go.RowKit

theorem trI_mem {p : PastF} {i : Nat} : ∀ {m : Nat} {x : Nat × Nat × Int}, x ∈ trI p i m → x.1 = i ∧ x.2.1 < m ∧ x.2.2 = dst (p.rf i x.2.1) (p.sv i x.2.1)
  | 0, x, h => by simp [trI] at h
  | m + 1, x, h => by
    rw [trI, List.mem_append] at h
    rcases h with h | h
    · obtain ⟨h1, h2, h3⟩ := trI_mem h
      exact ⟨h1, by omega, h3⟩
    · rw [List.mem_singleton] at h
      subst h
      exact ⟨rfl, by simp, rfl⟩
theorem trP_mem {p : PastF} {b : Int} : ∀ {n : Nat} {x : Nat × Nat × Int}, x ∈ trP p b n → x.1 < n ∧ p.bd x.1 = b ∧ x.2.1 < p.rn x.1 ∧ x.2.2 = dst (p.rf x.1 x.2.1) (p.sv x.1 x.2.1)
  | 0, x, h => by simp [trP] at h
  | n + 1, x, h => by
    rw [trP, List.mem_append] at h
    rcases h with h | h
    · obtain ⟨h1, h2⟩ := trP_mem h
      exact ⟨by omega, h2⟩
    · split at h
      · rename_i hb
        obtain ⟨h1, h2, h3⟩ := trI_mem h
        rw [h1]
        exact ⟨by omega, hb, h2, h3⟩
      · simp at h
/-- the forecasts, those of a body widened -/
def wdP (p : PastF) (b m : Int) (rA : Nat → Option Addr) (rc : Nat → Nat) : PastF := { p with rA := rA, rc := rc, rf := fun j => if p.bd j = b then wdF (p.rf j) m else p.rf j }
/-- the same trial, of the widened forecast -/
def wdT (p : PastF) (m : Int) (x : Nat × Nat × Int) : Nat × Nat × Int := (x.1, x.2.1, dst (wdF (p.rf x.1) m x.2.1) (p.sv x.1 x.2.1))
theorem trI_wd {p : PastF} {b m : Int} {rA : Nat → Option Addr} {rc : Nat → Nat} {i : Nat} (hb : p.bd i = b) : ∀ k, trI (wdP p b m rA rc) i k = (trI p i k).map (wdT p m)
  | 0 => rfl
  | k + 1 => by
    rw [trI, trI, List.map_append, trI_wd hb k]
    simp [wdT, wdP, hb]
theorem trP_wd {p : PastF} {b m : Int} {rA : Nat → Option Addr} {rc : Nat → Nat} : ∀ n, trP (wdP p b m rA rc) b n = (trP p b n).map (wdT p m)
  | 0 => rfl
  | n + 1 => by
    rw [trP, trP, List.map_append, trP_wd n]
    congr 1
    by_cases hb : p.bd n = b
    · rw [if_pos hb, if_pos (show (wdP p b m rA rc).bd n = b from hb), ← trI_wd hb]
      rfl
    · rw [if_neg hb, if_neg (show ¬ (wdP p b m rA rc).bd n = b from hb)]
      rfl
theorem kpP_wd {n : Nat} {p : PastF} {b fa of_ m : Int} {rA : Nat → Option Addr} {rc : Nat → Nat} (hg : PGood n p) (hm : 0 ≤ m) : kpP n (wdP p b m rA rc) b fa of_ 0 = kpP n p b fa of_ m := by
  unfold kpP
  have hl : (trP (wdP p b m rA rc) b n).length = (trP p b n).length := by rw [trP_wd, List.length_map]
  rw [hl]
  refine kpE_congr _ _ _ fun j hj => ?_
  have h1 : dlF p b n j = ((trP p b n)[j]).2.2 := by simp [dlF, List.getD, hj]
  have h2 : dlF (wdP p b m rA rc) b n j = (wdT p m ((trP p b n)[j])).2.2 := by simp [dlF, List.getD, trP_wd, hj]
  rw [h1, h2]
  obtain ⟨g1, g2, g3, g4⟩ := trP_mem (List.getElem_mem hj)
  rw [g4]
  generalize (trP p b n)[j] = x at *
  obtain ⟨_, _, g5, g6, g7⟩ := hg.2 x.1 g1
  have q1 := g6 x.2.1 g3
  have q2 := g7 x.2.1 (by omega)
  unfold wdT dst wdF
  simp only
  generalize (p.rf x.1 x.2.1).1 = a0 at *
  generalize (p.rf x.1 x.2.1).2 = a1 at *
  generalize p.sv x.1 x.2.1 = s at *
  rw [decide_eq_decide]
  omega
theorem wdP_good {n : Nat} {p : PastF} {b m : Int} {rA : Nat → Option Addr} {rc : Nat → Nat} (hg : PGood n p) (hm : 0 ≤ m) : PGood n (wdP p b m rA rc) := by
  refine ⟨hg.1, fun j hj => ?_⟩
  obtain ⟨h1, h2, h3, h4, h5⟩ := hg.2 j hj
  refine ⟨h1, h2, h3, fun i hi => ?_, h5⟩
  have h6 := h4 i hi
  show 0 ≤ ((if p.bd j = b then wdF (p.rf j) m else p.rf j) i).1 ∧ ((if p.bd j = b then wdF (p.rf j) m else p.rf j) i).1 ≤ ((if p.bd j = b then wdF (p.rf j) m else p.rf j) i).2 ∧ ((if p.bd j = b then wdF (p.rf j) m else p.rf j) i).2 ≤ 1099511627776
  split
  · unfold wdF
    simp only
    omega
  · exact h6
/-- the cells of k forecasts -/
def rowC (p : PastF) (k : Nat) : List Value := (List.range (k * 3)).map p.cells
theorem rowC_succ (p : PastF) (k : Nat) : rowC p k ++ [.int .i64 (p.bd k), .slice (p.rA k) (p.rn k) (p.rc k), .slice (p.sA k) (p.sn k) (p.sc k)] = rowC p (k + 1) := by
  unfold rowC
  rw [show (k + 1) * 3 = k * 3 + 1 + 1 + 1 by omega, List.range_succ, List.range_succ, List.range_succ]
  simp [PastF.cells, pcc_0, pcc_1, pcc_2]
theorem rowC_congr {p p' : PastF} {k : Nat} (h : ∀ j, j < k → p.bd j = p'.bd j ∧ (p.rA j = p'.rA j ∧ p.rn j = p'.rn j ∧ p.rc j = p'.rc j) ∧ p.sA j = p'.sA j ∧ p.sn j = p'.sn j ∧ p.sc j = p'.sc j) : rowC p k = rowC p' k := by
  unfold rowC
  refine List.map_congr_left fun j hj => ?_
  rw [List.mem_range] at hj
  obtain ⟨h1, ⟨h2, h3, h4⟩, h5, h6, h7⟩ := h (j / 3) (by omega)
  unfold PastF.cells pcc
  rw [h1, h2, h3, h4, h5, h6, h7]
theorem rowC_rd {w : World} {base k c : Nat} {A : Option Addr} {p : PastF} (h : w.ownsRow base 49 3 (.slice A k c) k (rowC p k)) : Rd w w.heap.size A (k * 3) p.cells :=
  Rd.of_own h fun j hj => by simp [rowC, hj]
theorem info49 : (Tryz.prog.info? 49).map (fun i => (i.zero, i.size, i.bytes)) = some (some (.agg #[.int .i64 0, .slice none 0 0, .slice none 0 0]), 3, 56) := by kernel_rfl
theorem cell_three_new (w : World) (x y z : Value) (t : TypeId) : ∀ j u, [x, y, z][j]? = some u → (w.alloc (.cells #[x, y, z] t)).cell? ((⟨w.heap.size, 0, none⟩ : Addr).add j) = some u := by
  intro j u hu
  have hb := Blk.new w t #[x, y, z]
  rw [Addr.add_lit, Nat.zero_add, hb.cell j]
  rw [← hu]
  simp
theorem one_three (a : Int) (A B : Option Addr) (n c m d : Nat) : ∀ u ∈ [Value.int .i64 a, Value.slice A n c, Value.slice B m d], u.oneCell' = true := by
  intro u hu
  simp at hu
  rcases hu with rfl | rfl | rfl <;> rfl
/-- a place set -/
def upd {α : Type} (f : Nat → α) (k : Nat) (v : α) (j : Nat) : α := if j = k then v else f j
theorem upd_at {α : Type} (f : Nat → α) (k : Nat) (v : α) : upd f k v k = v := by simp [upd]
theorem upd_ne {α : Type} (f : Nat → α) {k j : Nat} (v : α) (h : j ≠ k) : upd f k v j = f j := by simp [upd, h]
/-- the bounds of the first k forecasts: new rows where they were widened -/
def WdRows (w : World) (H : Nat) (p : PastF) (b m : Int) (rA : Nat → Option Addr) (rc : Nat → Nat) (k : Nat) : Prop :=
  ∀ j, j < k → (p.bd j = b → w.ownsRow H 53 2 (.slice (rA j) (p.rn j) (rc j)) (p.rn j) (rowR (wdF (p.rf j) m) (p.rn j))) ∧ (¬ p.bd j = b → rA j = p.rA j ∧ rc j = p.rc j)
theorem WdRows.below {w w' : World} {H : Nat} {p : PastF} {b m : Int} {rA : Nat → Option Addr} {rc : Nat → Nat} {k : Nat} (h : WdRows w H p b m rA rc k) (hb : Below w.heap.size w w') : WdRows w' H p b m rA rc k :=
  fun j hj => ⟨fun e => own_below ((h j hj).1 e) hb, (h j hj).2⟩
theorem WdRows.grown {w w' : World} {H : Nat} {p : PastF} {b m : Int} {rA : Nat → Option Addr} {rc : Nat → Nat} {k base n : Nat} {v : Value} {xs : List Value} (h : WdRows w H p b m rA rc k) (ho : w.ownsRow base 49 3 v n xs) (hg : w.grownBy w' v.ownBlock) : WdRows w' H p b m rA rc k :=
  fun j hj => ⟨fun e => Apart.kept ((h j hj).1 e) (own_other ho ((h j hj).1 e) (by decide)) hg, (h j hj).2⟩
theorem WdRows.push {w : World} {H : Nat} {p : PastF} {b m : Int} {rA : Nat → Option Addr} {rc : Nat → Nat} {k : Nat} {a : Option Addr} {c : Nat} (h : WdRows w H p b m rA rc k)
    (h1 : p.bd k = b → w.ownsRow H 53 2 (.slice a (p.rn k) c) (p.rn k) (rowR (wdF (p.rf k) m) (p.rn k))) (h2 : ¬ p.bd k = b → a = p.rA k ∧ c = p.rc k) : WdRows w H p b m (upd rA k a) (upd rc k c) (k + 1) := fun j hj => by
  by_cases e : j = k
  · subst e
    rw [upd_at, upd_at]
    exact ⟨h1, h2⟩
  · rw [upd_ne _ _ e, upd_ne _ _ e]
    exact h j (by omega)
theorem wdP_push (p : PastF) (b m : Int) (rA : Nat → Option Addr) (rc : Nat → Nat) (k : Nat) (a : Option Addr) (c : Nat) : rowC (wdP p b m rA rc) k ++ [.int .i64 (p.bd k), .slice a (p.rn k) c, .slice (p.sA k) (p.sn k) (p.sc k)] = rowC (wdP p b m (upd rA k a) (upd rc k c)) (k + 1) := by
  have h1 := rowC_succ (wdP p b m (upd rA k a) (upd rc k c)) k
  have h2 : rowC (wdP p b m rA rc) k = rowC (wdP p b m (upd rA k a) (upd rc k c)) k := rowC_congr fun j hj => by
    simp only [wdP]
    rw [upd_ne _ _ (by omega), upd_ne _ _ (by omega)]
    simp
  rw [h2, ← h1]
  simp only [wdP, upd_at]
end Go.Proofs.YtonkjnkokikpgaaGreat
namespace Go.Proofs.YtonkjnkokikpgaaGreat
open Go.RowKit

theorem wdP_rd {w : World} {B H k c : Nat} {C D : Option Addr} {p : PastF} {b m : Int} {rA : Nat → Option Addr} {rc : Nat → Nat} (hp : PastRd w B C k p) (hB : B ≤ w.heap.size)
    (ho : w.ownsRow H 49 3 (.slice D k c) k (rowC (wdP p b m rA rc) k)) (hw : WdRows w H p b m rA rc k) : PastRd w w.heap.size D k (wdP p b m rA rc) := by
  refine ⟨rowC_rd ho, fun j hj => ?_⟩
  obtain ⟨⟨h1, h2⟩, h3, h4⟩ := hp.2 j hj
  refine ⟨⟨?_, h2⟩, h3.mono hB, h4⟩
  show Rd w w.heap.size (rA j) (p.rn j * 2) (rsc (if p.bd j = b then wdF (p.rf j) m else p.rf j))
  by_cases e : p.bd j = b
  · rw [if_pos e]
    exact rowR_rd ((hw j hj).1 e)
  · rw [if_neg e, ((hw j hj).2 e).1]
    exact h1.mono hB

set_option maxRecDepth 100000 in
set_option maxHeartbeats 4000000 in
theorem calibrated_8 (A : Option Addr) (n c B : Nat) (p : PastF) (b mg fa of_ : Int) (w : World) (hB : B ≤ w.heap.size) (hr : PastRd w B A n p) (hg : DGood n p b fa of_) (hm : 0 ≤ mg ∧ mg ≤ 1099511627776) (hk : kpP n p b fa of_ mg = true) :
    Calls Tryz.prog 8 #[.slice A n c, .int .i64 b, .int .i64 mg, .agg #[.int .i64 fa, .int .i64 of_]] w fun e w' => e = .returned (.bool true) ∧ Below w.heap.size w w' := by
  have HP := Lib.hid hr
  have HG := Lib.hid hg
  have HM := Lib.hid hm
  have HK := Lib.hid hk
  have hn256 : n ≤ 256 := hg.1.1
  clear hr hg hm hk
  go_enter Tryz.func8, Tryz.ntmps8
  go_upto_region 1 with fail
  obtain ⟨w0, hw0⟩ : ∃ zz, zz = w.alloc (.cells #[.int .i64 fa, .int .i64 of_] 25) := ⟨_, rfl⟩
  have HJ0 : Hid (Blk w0 w.heap.size 25 #[.int .i64 fa, .int .i64 of_]) := Lib.hid (hw0 ▸ Blk.new _ _ _)
  have HB0 : Hid (Below w.heap.size w w0) := Lib.hid (hw0 ▸ below_alloc _ _)
  rw [← hw0]
  clear hw0
  have hz0 := HB0.out.size
  obtain ⟨i0, hif, hzr0, hz1, hz2⟩ := info_parts info49
  go_wp2_with fail
  go_loopw [9, 18] (fun s i wr => ∃ (k : Nat) (rA : Nat → Option Addr) (rc : Nat → Nat), k ≤ n ∧ i = .int .i64 k ∧ Hid (wr.ownsRow w0.heap.size 49 3 s k (rowC (wdP p b mg rA rc) k)) ∧ Hid (WdRows wr w0.heap.size p b mg rA rc k) ∧ Hid (Below w0.heap.size w0 wr)) (fun _ i _ => n - (intOf i).toNat)
  case atStart => exact ⟨0, fun _ => none, fun _ => 0, Nat.zero_le _, rfl, Lib.hid (World.ownsRow_nil _ _ _ _), Lib.hid (fun j hj => absurd hj (by omega)), Lib.hid (Below.refl _ _)⟩
  case round =>
    obtain ⟨k, rA, rc, hk, rfl, HO, HW, HL⟩ := hrel
    have HBr := Lib.hid (HB0.out.trans (HL.out.mono hz0))
    have HJr := Lib.hid (HJ0.out.below HL.out HJ0.out.lt)
    have hzr := HL.out.size
    obtain ⟨D, dc, hs⟩ := own_form HO.out
    subst hs
    by_cases hlt : ¬ k < n
    · have hlt' : ¬ (k : Int) < (n : Int) := by omega
      have hkn : k = n := by omega
      subst hkn
      have HQ : Hid (DGood k (wdP p b mg rA rc) b fa of_) := Lib.hid ⟨wdP_good HG.out.1 HM.out.1, HG.out.2⟩
      have HPR := Lib.hid (wdP_rd (HP.out.below (HBr.out.mono hB)) (by omega) HO.out HW.out)
      have HV : Hid (kpP k (wdP p b mg rA rc) b fa of_ 0 = true) := Lib.hid ((kpP_wd HG.out.1 HM.out.1).trans HK.out)
      have j0 : wr.cell? ⟨w.heap.size, 0, none⟩ = some (.int .i64 fa) := HJr.out.cell 0
      have j1 : wr.cell? ⟨w.heap.size, 1, none⟩ = some (.int .i64 of_) := HJr.out.cell 1
      go_wp2_with fail
      refine (Within_21 D k dc wr.heap.size (wdP p b mg rA rc) b fa of_ wr HQ.out (Nat.le_refl _) HPR.out).mono ?_
      rintro e w1 ⟨rfl, hb⟩
      rw [HV.out]
      have HB1 := Lib.hid (HBr.out.trans (hb.mono HBr.out.size))
      clear hb j0 j1
      go_wp2_with fail
      go_ret
      exact ⟨rfl, HB1.out⟩
    have hlt : k < n := by omega
    have hlt' : (k : Int) < (n : Int) := by omega
    have hpp := HP.out.below (HBr.out.mono hB)
    have hcc := hpp.1
    unfold PastF.cells at hcc
    obtain ⟨rb, ro, rfl, _, r0, r1, r2⟩ := pcc_at hcc hlt
    have HRR := Lib.hid (hpp.2 k hlt).1.1
    have HGK := Lib.hid (HG.out.1.2 k hlt)
    have HPU : Hid (∀ a q, rowC (wdP p b mg rA rc) k ++ [.int .i64 (p.bd k), .slice a (p.rn k) q, .slice (p.sA k) (p.sn k) (p.sc k)] = rowC (wdP p b mg (upd rA k a) (upd rc k q)) (k + 1)) := Lib.hid (wdP_push p b mg rA rc k)
    have HNB : Hid (∀ wq : World, WdRows wq w0.heap.size p b mg rA rc k → ¬ p.bd k = b → WdRows wq w0.heap.size p b mg (upd rA k (p.rA k)) (upd rc k (p.rc k)) (k + 1)) := Lib.hid fun wq h e => h.push (fun e' => absurd e' e) (fun _ => ⟨rfl, rfl⟩)
    have HYB : Hid (∀ (wq : World) a q, WdRows wq w0.heap.size p b mg rA rc k → p.bd k = b → wq.ownsRow w0.heap.size 53 2 (.slice a (p.rn k) q) (p.rn k) (rowR (wdF (p.rf k) mg) (p.rn k)) → WdRows wq w0.heap.size p b mg (upd rA k a) (upd rc k q) (k + 1)) := Lib.hid fun wq a q h e ho => h.push (fun _ => ho) (fun e' => absurd e e')
    clear hcc hpp
    generalize p.bd k = x0 at *
    generalize p.rA k = x1 at *
    generalize p.rn k = x2 at *
    generalize p.rc k = x3 at *
    generalize p.sA k = x4 at *
    generalize p.sn k = x5 at *
    generalize p.sc k = x6 at *
    go_upto_region 5 with fail
    obtain ⟨e1, he1⟩ : ∃ zz, zz = wr.alloc (.cells #[.int .i64 x0, .slice x1 x2 x3, .slice x4 x5 x6] 49) := ⟨_, rfl⟩
    have HX1 : Hid (Blk e1 wr.heap.size 49 #[.int .i64 x0, .slice x1 x2 x3, .slice x4 x5 x6]) := Lib.hid (he1 ▸ Blk.new _ _ _)
    have HL1 : Hid (Below w0.heap.size w0 e1) := Lib.hid (he1 ▸ HL.out.alloc hzr _)
    have HE1 : Hid (Below wr.heap.size wr e1) := Lib.hid (he1 ▸ below_alloc _ _)
    have HO1 := Lib.hid (own_below HO.out HE1.out)
    have HW1 := Lib.hid (HW.out.below HE1.out)
    have HR1 := Lib.hid (HRR.out.below (HE1.out.mono (by omega)))
    rw [← he1]
    clear he1 r0 r1 r2 HBr HJr HRR
    have hx1 := HX1.out.lt
    have y0 : e1.cell? ⟨wr.heap.size, 0, none⟩ = some (.int .i64 x0) := HX1.out.cell 0
    have y1 : e1.cell? ⟨wr.heap.size, 1, none⟩ = some (.slice x1 x2 x3) := HX1.out.cell 1
    have y2 : e1.cell? ⟨wr.heap.size, 2, none⟩ = some (.slice x4 x5 x6) := HX1.out.cell 2
    have y2' : e1.cell? ⟨wr.heap.size, 1 + 1, none⟩ = some (.slice x4 x5 x6) := HX1.out.cell 2
    by_cases hxb : ¬ x0 = b
    · clear HO HW HL
      have hxbd : decide (x0 = b) = false := by simpa using hxb
      have hxbe : (x0 == b) = false := by simpa using hxb
      have HXB := Lib.hid hxb
      go_upto_region 10 with fail
      go_wp2_with (at_builtin; refine wpList_append_own_at _ rfl _ _ 23 rfl w0.heap.size 49 i0 (.agg #[.int .i64 0, .slice none 0 0, .slice none 0 0]) 3 56 Tryz.underlying23 hif hzr0 hz1 hz2 rfl (by decide) (.slice D k dc) k (rowC (wdP p b mg rA rc) k) rfl (HO1.out.alloc _) ⟨_, 0, none⟩ 1 1 [.int .i64 x0, .slice x1 x2 x3, .slice x4 x5 x6] rfl rfl (cell_three_new _ _ _ _ _) (one_three _ _ _ _ _ _ _) (by unfold maxLen; omega) (by omega) (by simp; omega) ?_; intro v6 wb hown2 hgrow2 _ hat2)
      have HO6 := Lib.hid (by rw [HPU.out] at hown2; exact hown2)
      have HW6 := Lib.hid (HNB.out _ ((HW1.out.below (below_alloc _ _)).grown (HO1.out.alloc _) hgrow2) HXB.out)
      have HL6 : Hid (Below w0.heap.size w0 wb) := Lib.hid ((HL1.out.trans (Below.mono (below_alloc _ _) HL1.out.size)).grown hgrow2 (by simp; omega) (fun j hj => (HO1.out.lt j hj).1))
      clear hown2 hgrow2 hat2
      go_wp2_with fail
      go_roundw
      case rel => exact ⟨k + 1, _, _, by omega, by go_num, HO6, HW6, HL6⟩
      case measure => simp [intOf]; omega
    obtain rfl : x0 = b := by omega
    go_wp2_with fail
    refine (Widen_17 x1 x2 x3 e1.heap.size (p.rf k) mg e1 (by have := HGK.out.2.1; omega) (Nat.le_refl _) (HR1.out.mono (by have := HE1.out.size; omega))).mono ?_
    rintro e w2 ⟨⟨D3, L3, dc3, E3, rfl, hE3, hL3, hl16, hown⟩, hb⟩
    obtain rfl : E3 = 0 := hE3.2 ⟨rgB_iff.2 ⟨HGK.out.2.1, HGK.out.2.2.2.1⟩, HM.out⟩
    obtain rfl : L3 = x2 := hL3 rfl
    have HN := Lib.hid hown
    have HE2 := Lib.hid (HE1.out.trans (hb.mono HE1.out.size))
    have HX2 := Lib.hid (HX1.out.below hb hx1)
    have hz12 := hb.size
    clear hE3 hL3 hown hb y0 y1 y2 y2' HX1 HO1 HW1 HR1 HL1
    have y0 : w2.cell? ⟨wr.heap.size, 0, none⟩ = some (.int .i64 x0) := HX2.out.cell 0
    have y1 : w2.cell? ⟨wr.heap.size, 1, none⟩ = some (.slice x1 L3 x3) := HX2.out.cell 1
    have f1 := HX2.out.frozen 1
    have y2 : w2.cell? ⟨wr.heap.size, 2, none⟩ = some (.slice x4 x5 x6) := HX2.out.cell 2
    have y2' : w2.cell? ⟨wr.heap.size, 1 + 1, none⟩ = some (.slice x4 x5 x6) := HX2.out.cell 2
    go_upto_region 10 with fail
    obtain ⟨w3, hw3⟩ : ∃ zz, zz = w2.setCell ⟨wr.heap.size, 1, none⟩ (.slice D3 L3 dc3) := ⟨_, rfl⟩
    have HX3 : Hid (Blk w3 wr.heap.size 49 #[.int .i64 x0, .slice D3 L3 dc3, .slice x4 x5 x6]) := Lib.hid (hw3 ▸ HX2.out.set_ 1 _)
    have HE3 : Hid (Below wr.heap.size wr w3) := Lib.hid (hw3 ▸ HE2.out.setCell (p := ⟨wr.heap.size, 1, none⟩) (Nat.le_refl _) _)
    have HN3 : Hid (w3.ownsRow w0.heap.size 53 2 (.slice D3 L3 dc3) L3 (rowR (wdF (p.rf k) mg) L3)) := Lib.hid (own_weaken (hw3 ▸ own_set HN.out (p := ⟨wr.heap.size, 1, none⟩) hx1 _) (by omega))
    have HO3 := Lib.hid (own_below HO.out HE3.out)
    have HW3 := Lib.hid (HW.out.below HE3.out)
    have HL3 := Lib.hid (HL.out.trans (HE3.out.mono hzr))
    rw [← hw3]
    clear hw3 y0 y1 y2 y2' f1 HX2 HE2 HN HO HW HL
    have hz3 := HE3.out.size
    have y0 : w3.cell? ⟨wr.heap.size, 0, none⟩ = some (.int .i64 x0) := HX3.out.cell 0
    have y1 : w3.cell? ⟨wr.heap.size, 1, none⟩ = some (.slice D3 L3 dc3) := HX3.out.cell 1
    have y2 : w3.cell? ⟨wr.heap.size, 2, none⟩ = some (.slice x4 x5 x6) := HX3.out.cell 2
    have y2' : w3.cell? ⟨wr.heap.size, 1 + 1, none⟩ = some (.slice x4 x5 x6) := HX3.out.cell 2
    go_wp2_with (at_builtin; refine wpList_append_own_at _ rfl _ _ 23 rfl w0.heap.size 49 i0 (.agg #[.int .i64 0, .slice none 0 0, .slice none 0 0]) 3 56 Tryz.underlying23 hif hzr0 hz1 hz2 rfl (by decide) (.slice D k dc) k (rowC (wdP p x0 mg rA rc) k) rfl (HO3.out.alloc _) ⟨_, 0, none⟩ 1 1 [.int .i64 x0, .slice D3 L3 dc3, .slice x4 x5 x6] rfl rfl (cell_three_new _ _ _ _ _) (one_three _ _ _ _ _ _ _) (by unfold maxLen; omega) (by omega) (by simp; omega) ?_; intro v6 wb hown2 hgrow2 _ hat2)
    have HO6 := Lib.hid (by rw [HPU.out] at hown2; exact hown2)
    have HW6 := Lib.hid (HYB.out _ _ _ ((HW3.out.below (below_alloc _ _)).grown (HO3.out.alloc _) hgrow2) trivial (Apart.kept (HN3.out.alloc _) (own_other HO3.out HN3.out (by decide)) hgrow2))
    have HL6 : Hid (Below w0.heap.size w0 wb) := Lib.hid ((HL3.out.trans (Below.mono (below_alloc _ _) HL3.out.size)).grown hgrow2 (by simp; omega) (fun j hj => (HO3.out.lt j hj).1))
    clear hown2 hgrow2 hat2
    go_wp2_with fail
    go_roundw
    case rel => exact ⟨k + 1, _, _, by omega, by go_num, HO6, HW6, HL6⟩
    case measure => simp [intOf]; omega
end Go.Proofs.YtonkjnkokikpgaaGreat
