/- Contract of Firm. -/
import Derived.Test.YtnmocdfogdcliaaFails
import Derived.Test.YtnmocdfogdcliaaSearch
namespace Go.Proofs.Ytnmocdfogdcliaa
open Go.RowKit

/-- is a shape right? -/
def shB (sh : Nat → Int) : Nat → Bool
  | 0 => true
  | k + 1 => shB sh k && ri3 0 (sh k) 1048576
theorem shB_at {sh : Nat → Int} : ∀ m, shB sh m = true → ∀ j, j < m → 0 ≤ sh j ∧ sh j ≤ 1048576
  | 0, _, j, hj => absurd hj (by omega)
  | m + 1, h, j, hj => by
    simp only [shB, Bool.and_eq_true] at h
    by_cases e : j = m
    · subst e; exact ri3_iff.1 h.2
    · exact shB_at m h.1 j (by omega)
theorem shB_bad {sh : Nat → Int} {j : Nat} (h : ri3 0 (sh j) 1048576 = false) : ∀ m, j < m → shB sh m = false
  | 0, hn => absurd hn (by omega)
  | m + 1, hn => by
    by_cases e : j = m
    · subst e; simp [shB, h]
    · simp [shB, shB_bad h m (by omega)]
/-- what Firm says -/
def fiE (cp st fl : Int) (n : Nat) (lo hi dm ou sp : Nat → Int) (m : Nat) (sh : Nat → Int) : Int :=
  if ¬ chkE cp st fl n lo hi dm ou sp = 0 then chkE cp st fl n lo hi dm ou sp else if ¬ m = n then 390 else if shB sh m = false then 390 else 0
def fiK (cp st fl : Int) (n : Nat) (lo hi ou sp sh : Nat → Int) : Nat := lastK (frmB cp st fl n lo hi ou sp sh) 1048577
def fi3 (E : Int) (k : Nat) : Array Value := #[.int .i64 (if E = 0 then max ((k : Int) - 1) 0 else 0), .bool (decide (E = 0) && decide (0 < k)), .int .i64 E]
def fiV (cp st fl : Int) (n : Nat) (lo hi dm ou sp : Nat → Int) (m : Nat) (sh : Nat → Int) : Value := .tuple (fi3 (fiE cp st fl n lo hi dm ou sp m sh) (fiK cp st fl n lo hi ou sp sh))
theorem fiK_le (cp st fl : Int) (n : Nat) (lo hi ou sp sh : Nat → Int) : fiK cp st fl n lo hi ou sp sh ≤ 1048577 := lastK_le _ _
theorem fiK_spec {cp st fl : Int} {n : Nat} {lo hi ou sp sh : Nat → Int} (h : ∀ j, j < n → 0 ≤ sh j ∧ sh j ≤ 1048576) {i : Nat} (hi' : i < 1048577) : frmB cp st fl n lo hi ou sp sh i = decide (i < fiK cp st fl n lo hi ou sp sh) :=
  lastK_spec (fun _ _ hMN hN => frm_anti (fun j hj => (h j hj).1) hMN hN) _ i hi'

set_option maxRecDepth 100000 in
set_option maxHeartbeats 8000000 in
theorem Firm_23 {PA : Option Addr} {n pc : Nat} {cp st fl : Int} {lo hi dm ou sp : Nat → Int} (B m sc : Nat) (SA : Option Addr) (sh : Nat → Int) (w : World) (hn : n ≤ 9223372036854775807) (hm : m ≤ 9223372036854775807) (hB : B ≤ w.heap.size) (hr : Rd w B PA (n * 5) (psc lo hi dm ou sp)) (hf : Rd w B SA m (fun j => .int .i64 (sh j))) :
    Calls Try.prog 23 #[(.agg #[.int .i64 cp, .int .i64 st, .int .i64 fl, .slice PA n pc]), .slice SA m sc] w fun e w' => e = .returned (fiV cp st fl n lo hi dm ou sp m sh) ∧ Below w.heap.size w w' := by
  obtain ⟨w0, hw0⟩ : ∃ zz, zz = (w.alloc (.cells #[.int .i64 cp, .int .i64 st, .int .i64 fl, .slice PA n pc] 26)).alloc (.cells #[.slice SA m sc] 41) := ⟨_, rfl⟩
  have HK0 : Hid (Blk w0 w.heap.size 26 #[.int .i64 cp, .int .i64 st, .int .i64 fl, .slice PA n pc]) := Lib.hid (hw0 ▸ (Blk.new _ _ _).alloc _)
  have HS0 : Hid (Blk w0 (w.heap.size + 1) 41 #[.slice SA m sc]) := Lib.hid (by have h := Blk.new (w.alloc (.cells #[.int .i64 cp, .int .i64 st, .int .i64 fl, .slice PA n pc] 26)) 41 #[.slice SA m sc]; rw [World.size_alloc] at h; rw [hw0]; exact h)
  have HB0 : Hid (Below w.heap.size w w0) := Lib.hid (hw0 ▸ (below_alloc _ _).alloc (by simp) _)
  have HW := Lib.hid hw0
  have HRD := Lib.hid hr
  have HF := Lib.hid hf
  have HCK := Lib.hid (Check_14 (PA := PA) (pc := pc) (cp := cp) (st := st) (fl := fl) B w0 hn (by have := HB0.out.size; omega) (hr.below (HB0.out.mono hB)))
  clear hw0 hr hf
  have c0 : w0.cell? ⟨w.heap.size, 0, none⟩ = some (.int .i64 cp) := HK0.out.cell 0
  have c1 : w0.cell? ⟨w.heap.size, 1, none⟩ = some (.int .i64 st) := HK0.out.cell 1
  have c2 : w0.cell? ⟨w.heap.size, 2, none⟩ = some (.int .i64 fl) := HK0.out.cell 2
  have c3 : w0.cell? ⟨w.heap.size, 3, none⟩ = some (.slice PA n pc) := HK0.out.cell 3
  have H64 : Hid ((chkE cp st fl n lo hi dm ou sp) = 0 → n ≤ 64) := Lib.hid fun h => (chk_zero h).1
  have HE : Hid (fiE cp st fl n lo hi dm ou sp m sh = if ¬ (chkE cp st fl n lo hi dm ou sp) = 0 then (chkE cp st fl n lo hi dm ou sp) else if ¬ m = n then 390 else if shB sh m = false then 390 else 0) := Lib.hid rfl
  have HV : Hid (fiV cp st fl n lo hi dm ou sp m sh = .tuple (fi3 (fiE cp st fl n lo hi dm ou sp m sh) (fiK cp st fl n lo hi ou sp sh))) := Lib.hid rfl
  have HKL := fiK_le cp st fl n lo hi ou sp sh
  have HKS : Hid ((∀ j, j < n → 0 ≤ sh j ∧ sh j ≤ 1048576) → ∀ i, i < 1048577 → frmB cp st fl n lo hi ou sp sh i = decide (i < fiK cp st fl n lo hi ou sp sh)) := Lib.hid fun h i hi => fiK_spec h hi
  generalize fiV cp st fl n lo hi dm ou sp m sh = V at HV ⊢
  generalize fiE cp st fl n lo hi dm ou sp m sh = E at HV HE
  generalize fiK cp st fl n lo hi ou sp sh = K at HV HKL HKS
  generalize (chkE cp st fl n lo hi dm ou sp) = CE at HCK HE H64
  go_enter Try.func23, Try.ntmps23
  go_upto_region 1 with fail
  rw [← HW.out]
  clear HW
  go_wp2_with fail
  refine HCK.out.mono ?_
  rintro e w1 ⟨rfl, hb⟩
  have HB1 := Lib.hid (HB0.out.trans (hb.mono HB0.out.size))
  have HK1 := Lib.hid (HK0.out.below hb HK0.out.lt)
  have HS1 := Lib.hid (HS0.out.below hb HS0.out.lt)
  clear hb HK0 HS0 HB0 HCK c0 c1 c2 c3
  by_cases h1 : ¬ CE = 0
  · have HE2 := Lib.hid (HE.out.trans (if_pos h1))
    have h1d : (CE == 0) = false := by simpa using h1
    go_wp2_with fail
    go_ret3
    exact ⟨ret_val (by rw [HV.out, HE2.out]; simp [fi3, h1]), HB1.out⟩
  have h1 : CE = 0 := by omega
  subst h1
  have h64 := H64.out rfl
  have HE2 := Lib.hid (HE.out.trans (if_neg (by simp)))
  clear HE H64
  have c3 : w1.cell? ⟨w.heap.size, 2 + 1, none⟩ = some (.slice PA n pc) := HK1.out.cell 3
  have c3' : w1.cell? ⟨w.heap.size, 3, none⟩ = some (.slice PA n pc) := HK1.out.cell 3
  have s0 : w1.cell? ⟨w.heap.size + 1, 0, none⟩ = some (.slice SA m sc) := HS1.out.cell 0
  by_cases h2 : ¬ m = n
  · have HE3 := Lib.hid (HE2.out.trans (if_pos h2))
    have h2d : ((m : Int) == n) = false := by simpa using fun h => h2 (by omega)
    have h2e : ((m : Int) != n) = true := by simpa using fun h => h2 (by omega)
    go_wp2_with fail
    go_ret3
    exact ⟨ret_val (by rw [HV.out, HE3.out]; rfl), HB1.out⟩
  have h2 : m = n := by omega
  subst h2
  have HE3 := Lib.hid (HE2.out.trans (if_neg (by simp)))
  clear HE2
  go_wp2_with fail
  clear c3 c3' s0
  go_loopw [8, 23] (fun _ i wr => ∃ k : Nat, k ≤ m ∧ i = .int .i64 k ∧ Hid (shB sh k = true) ∧ Below w1.heap.size w1 wr) (fun _ i _ => m - (intOf i).toNat)
  case atStart => exact ⟨0, Nat.zero_le _, rfl, Lib.hid rfl, Below.refl _ _⟩
  case round =>
    obtain ⟨k, hk, rfl, HSB, hb⟩ := hrel
    have HBL := Lib.hid hb
    have HB2 := Lib.hid (HB1.out.trans (hb.mono HB1.out.size))
    have hz2 := hb.size
    clear hb
    by_cases hlt : k < m
    · have hlt' : (k : Int) < m := by omega
      obtain ⟨b, o, e, _, hc⟩ := HF.out.below (HB2.out.mono hB) (by omega)
      subst e
      have p0 : wr.cell? ⟨b, o + k, none⟩ = some (.int .i64 (sh k)) := hc k hlt
      clear hc
      have HN : Hid (shB sh (k + 1) = (shB sh k && ri3 0 (sh k) 1048576)) := Lib.hid rfl
      have HBAD : Hid (ri3 0 (sh k) 1048576 = false → shB sh m = false) := Lib.hid fun h => shB_bad h m hlt
      generalize sh k = z at *
      go_wp2_with fail
      refine (rise3 _ _ _ _).mono ?_
      rintro e w3 ⟨rfl, hb⟩
      have HBL3 := Lib.hid (HBL.out.trans (hb.mono hz2))
      have HB3 := Lib.hid (HB2.out.trans (hb.mono HB2.out.size))
      clear hb
      cases h3 : ri3 0 z 1048576
      · have HE4 := Lib.hid (HE3.out.trans (if_pos (HBAD.out h3)))
        go_wp2_with fail
        go_ret3
        exact ⟨ret_val (by rw [HV.out, HE4.out]; rfl), HB3.out⟩
      · have HN2 : Hid (shB sh (k + 1) = true) := Lib.hid (by rw [HN.out, HSB.out, h3]; rfl)
        go_wp2_with fail
        go_roundw
        case rel => exact ⟨k + 1, by omega, by go_num, HN2, HBL3.out⟩
        case measure => simp [intOf]; omega
    · have hkm : m = k := by omega
      subst hkm
      have HE4 := Lib.hid (HE3.out.trans (if_neg (by rw [HSB.out]; simp)))
      have HSH := Lib.hid (shB_at m HSB.out)
      have HKS2 := Lib.hid (HKS.out HSH.out)
      have HK2 := Lib.hid (HK1.out.below HBL.out HK1.out.lt)
      have HS2 := Lib.hid (HS1.out.below HBL.out HS1.out.lt)
      clear HE3 HSB hlt
      have eg : ∀ args w, (callFunc 44 args).run Try.prog w = .ok (.enter 44 args) w := enters_of Try.func44 (by kernel_rfl) rfl
      have HSE : Hid (Calls Try.prog 45 #[.int .i64 1048577, .func (.func 44) #[] #[.pointer (some ⟨w.heap.size, 0, none⟩), .pointer (some ⟨w.heap.size + 1, 0, none⟩)]] wr fun e w' => e = .returned (.int .i64 K) ∧ Below wr.heap.size wr w') :=
        Lib.hid (search 44 #[.pointer (some ⟨w.heap.size, 0, none⟩), .pointer (some ⟨w.heap.size + 1, 0, none⟩)] 1048577 K wr eg (by omega) HKL (fun W i hW hi => ((fails_44 (PA := PA) (n := m) (pc := pc) (cp := cp) (st := st) (fl := fl) (lo := lo) (hi := _) (dm := dm) (ou := ou) (sp := sp) B i w.heap.size (w.heap.size + 1) sc SA sh W (by omega) h64 HSH.out (by have := HB2.out.size; have := hW.size; omega) (HK2.out.below hW HK2.out.lt) (HS2.out.below hW HS2.out.lt)
          (HRD.out.below ((HB2.out.trans (hW.mono HB2.out.size)).mono hB)) (HF.out.below ((HB2.out.trans (hW.mono HB2.out.size)).mono hB))).mono fun e w' h => ⟨by
            rw [h.1, HKS2.out i (by omega)]
            exact ret_bool (by rw [← decide_not]; congr 1; simp), h.2⟩)))
      go_wp2_with fail
      refine HSE.out.mono ?_
      rintro e w5 ⟨rfl, hb⟩
      have HB5 := Lib.hid (HB2.out.trans (hb.mono HB2.out.size))
      clear hb HSE
      have hwk : IntKind.i64.wrap ((K : Int) - 1) = K - 1 := IntWalk.i64_in _ ⟨by omega, by omega⟩
      by_cases h5 : 0 < K
      · have h6 : ¬ (K : Int) - 1 < 0 := by omega
        have h7 : (0 : Int) ≤ (K : Int) - 1 := by omega
        go_wp2_with fail
        go_ret3
        exact ⟨ret_val (by
          rw [HV.out, HE4.out]
          unfold fi3
          have h8 : max ((K : Int) - 1) 0 = K - 1 := by omega
          simp [h5, h8]; omega), HB5.out⟩
      · have hK0 : K = 0 := by omega
        subst hK0
        go_wp2_with fail
        go_ret3
        exact ⟨ret_val (by rw [HV.out, HE4.out]; rfl), HB5.out⟩
end Go.Proofs.Ytnmocdfogdcliaa
