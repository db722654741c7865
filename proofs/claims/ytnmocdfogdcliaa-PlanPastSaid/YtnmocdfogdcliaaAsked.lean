/- Contracts of the program's asked, allowed and after. -/
import Derived.Test.YtnmocdfogdcliaaRefRelease
namespace Go.Proofs.Ytnmocdfogdcliaa
open Go.RowKit

/-- are the further numbers right? -/
def mrB (f : Nat → Int) : Nat → Bool
  | 0 => true
  | k + 1 => mrB f k && ri3 0 (f k) 1099511627776
/-- the error of what was asked, with further numbers -/
def askM (cp st fl : Int) (n : Nat) (lo hi dm ou sp : Nat → Int) (t x : Int) (b : Bool) : Int := if askE cp st fl n lo hi dm ou sp t x = 0 then (if b = true then 0 else 1) else askE cp st fl n lo hi dm ou sp t x
section
variable {cp st fl : Int} {n : Nat} {lo hi dm ou sp : Nat → Int} {t x : Int}
theorem askM_bad {b : Bool} (h : ¬ chkE cp st fl n lo hi dm ou sp = 0) : askM cp st fl n lo hi dm ou sp t x b = chkE cp st fl n lo hi dm ou sp := by
  unfold askM askE
  rw [if_pos h, if_neg h]
theorem askM_ok {b : Bool} (h : chkE cp st fl n lo hi dm ou sp = 0) : askM cp st fl n lo hi dm ou sp t x b = if ((ri3 0 t ((n : Int) - 1) && ri3 0 x cp) && b) = true then 0 else 1 := by
  have ha : askE cp st fl n lo hi dm ou sp t x = if t < 0 ∨ (n : Int) ≤ t then 1 else if ri3 0 x cp = false then 1 else 0 := if_neg (Decidable.not_not.2 h)
  unfold askM
  rw [ha]
  by_cases h1 : t < 0 ∨ (n : Int) ≤ t
  · have h2 : ri3 0 t ((n : Int) - 1) = false := by
      cases h3 : ri3 0 t ((n : Int) - 1)
      · rfl
      · have := ri3_iff.1 h3; omega
    rw [if_pos h1, h2]
    simp
  · have h2 : ri3 0 t ((n : Int) - 1) = true := ri3_iff.2 (by omega)
    rw [if_neg h1, h2]
    cases ri3 0 x cp <;> cases b <;> simp
theorem askM_zero {b : Bool} (h : askM cp st fl n lo hi dm ou sp t x b = 0) : b = true ∧ chkE cp st fl n lo hi dm ou sp = 0 ∧ (0 ≤ t ∧ t < n) ∧ 0 ≤ x ∧ x ≤ cp := by
  unfold askM at h
  split at h
  · rename_i h1
    split at h
    · rename_i h2; exact ⟨h2, ask_zero h1⟩
    · cases h
  · rename_i h1; exact absurd h h1
end

set_option maxRecDepth 100000 in
set_option maxHeartbeats 8000000 in
theorem asked_37 {PA : Option Addr} {n pc : Nat} {cp st fl : Int} {lo hi dm ou sp : Nat → Int} (B : Nat) (t x : Int) (MA : Option Addr) (m mc : Nat) (f : Nat → Int) (w : World) (hn : n ≤ 9223372036854775807) (hm : m ≤ 2) (hB : B ≤ w.heap.size) (hr : Rd w B PA (n * 5) (psc lo hi dm ou sp)) (hf : Rd w w.heap.size MA m (fun j => .int .i64 (f j))) :
    Calls Try.prog 37 #[(.agg #[.int .i64 cp, .int .i64 st, .int .i64 fl, .slice PA n pc]), .int .i64 t, .int .i64 x, .slice MA m mc] w fun e w' => e = .returned (.int .i64 (askM cp st fl n lo hi dm ou sp t x (mrB f m))) ∧ Below w.heap.size w w' := by
  obtain ⟨w0, hw0⟩ : ∃ zz, zz = w.alloc (.cells #[.int .i64 cp, .int .i64 st, .int .i64 fl, .slice PA n pc] 26) := ⟨_, rfl⟩
  have HK0 : Hid (Blk w0 w.heap.size 26 #[.int .i64 cp, .int .i64 st, .int .i64 fl, .slice PA n pc]) := Lib.hid (hw0 ▸ Blk.new _ _ _)
  have HB0 : Hid (Below w.heap.size w w0) := Lib.hid (hw0 ▸ below_alloc _ _)
  have HW := Lib.hid hw0
  have HF := Lib.hid hf
  have HCK := Lib.hid (Check_14 (PA := PA) (pc := pc) (cp := cp) (st := st) (fl := fl) B w0 hn (by have := HB0.out.size; omega) (hr.below (HB0.out.mono hB)))
  have H64 : Hid ((chkE cp st fl n lo hi dm ou sp) = 0 → n ≤ 64) := Lib.hid fun h => (chk_zero h).1
  have HM1 : Hid (¬ (chkE cp st fl n lo hi dm ou sp) = 0 → askM cp st fl n lo hi dm ou sp t x (mrB f m) = (chkE cp st fl n lo hi dm ou sp)) := Lib.hid fun h => askM_bad h
  have HM2 : Hid ((chkE cp st fl n lo hi dm ou sp) = 0 → askM cp st fl n lo hi dm ou sp t x (mrB f m) = if ((ri3 0 t ((n : Int) - 1) && ri3 0 x cp) && mrB f m) = true then 0 else 1) := Lib.hid fun h => askM_ok h
  clear hw0 hr hf hn
  have c0 : w0.cell? ⟨w.heap.size, 0, none⟩ = some (.int .i64 cp) := HK0.out.cell 0
  have c1 : w0.cell? ⟨w.heap.size, 1, none⟩ = some (.int .i64 st) := HK0.out.cell 1
  have c2 : w0.cell? ⟨w.heap.size, 2, none⟩ = some (.int .i64 fl) := HK0.out.cell 2
  have c3 : w0.cell? ⟨w.heap.size, 3, none⟩ = some (.slice PA n pc) := HK0.out.cell 3
  generalize askM cp st fl n lo hi dm ou sp t x (mrB f m) = E at HM1 HM2 ⊢
  generalize (chkE cp st fl n lo hi dm ou sp) = CE at HCK H64 HM1 HM2
  go_enter Try.func37, Try.ntmps37
  go_upto_region 1 with fail
  rw [← HW.out]
  clear HW
  go_wp2_with fail
  refine HCK.out.mono ?_
  rintro e w1 ⟨rfl, hb⟩
  have HB1 := Lib.hid (HB0.out.trans (hb.mono HB0.out.size))
  have HK1 := Lib.hid (HK0.out.below hb HK0.out.lt)
  clear hb HK0 HB0 HCK c0 c1 c2 c3
  by_cases h1 : ¬ CE = 0
  · have HE := Lib.hid (HM1.out h1)
    have h1d : (CE == 0) = false := by simpa using h1
    go_wp2_with fail
    go_ret
    exact ⟨ret_int HE.out.symm, HB1.out⟩
  have h1 : CE = 0 := by omega
  subst h1
  have h64 := H64.out rfl
  have HE2 := Lib.hid (HM2.out rfl)
  clear H64 HM1 HM2
  obtain ⟨b4, hb4⟩ : ∃ b, b = (ri3 0 t ((n : Int) - 1) && ri3 0 x cp) := ⟨_, rfl⟩
  rw [← hb4] at HE2
  have H4 := Lib.hid hb4
  clear hb4
  have hwn : IntKind.i64.wrap ((n : Int) - 1) = n - 1 := IntWalk.i64_in _ ⟨by omega, by omega⟩
  have c0 : w1.cell? ⟨w.heap.size, 0, none⟩ = some (.int .i64 cp) := HK1.out.cell 0
  have c3 : w1.cell? ⟨w.heap.size, 2 + 1, none⟩ = some (.slice PA n pc) := HK1.out.cell 3
  go_upto_region 4 with fail
  go_cut [9] (fun s9 wc => s9 = .bool b4 ∧ Below w1.heap.size w1 wc)
  case first =>
    go_wp2_with fail
    refine (rise3 _ _ _ _).mono ?_
    rintro e w2 ⟨rfl, hb⟩
    have HL2 := Lib.hid hb
    clear c0 c3
    have c0 : w2.cell? ⟨w.heap.size, 0, none⟩ = some (.int .i64 cp) := (HK1.out.below hb HK1.out.lt).cell 0
    clear hb
    cases h2 : ri3 0 t ((n : Int) - 1)
    · have HV : Hid (false = b4) := Lib.hid (by rw [H4.out, h2]; rfl)
      clear h2
      go_wp2_with fail
      go_meet
      case rel => exact ⟨by rw [HV.out], HL2.out⟩
    · have HV : Hid (ri3 0 x cp = b4) := Lib.hid (by rw [H4.out, h2]; rfl)
      clear h2
      go_wp2_with fail
      refine (rise3 _ _ _ _).mono ?_
      rintro e w3 ⟨rfl, hb⟩
      have HL3 := Lib.hid (HL2.out.trans (hb.mono HL2.out.size))
      clear hb
      go_wp2_with fail
      go_meet
      case rel => exact ⟨by rw [HV.out], HL3.out⟩
  case rest =>
    obtain ⟨rfl, hb⟩ := hcut
    obtain ⟨v0, hyy⟩ : ∃ y, y = wc := ⟨_, rfl⟩
    subst hyy
    have HB2 := Lib.hid (HB1.out.trans (hb.mono HB1.out.size))
    clear hb HK1 HB1 c0 c3 H4
    have hz1 := HB2.out.size
    go_wp2_with fail
    go_loopw [9, 34] (fun s9 i wr => ∃ k : Nat, k ≤ m ∧ i = .int .i64 k ∧ s9 = .bool (b4 && mrB f k) ∧ Below v0.heap.size v0 wr) (fun _ i _ => m - (intOf i).toNat)
    case atStart => exact ⟨0, Nat.zero_le _, rfl, by simp [mrB], Below.refl _ _⟩
    case round =>
      obtain ⟨k, hk, rfl, rfl, hb⟩ := hrel
      have HBL := Lib.hid hb
      have HB3 := Lib.hid (HB2.out.trans (hb.mono hz1))
      have hz2 := hb.size
      clear hb
      by_cases hlt : k < m
      · have hlt' : (k : Int) < m := by omega
        obtain ⟨b, o, e, _, hc⟩ := HF.out.below HB3.out (by omega)
        subst e
        have p0 : wr.cell? ⟨b, o + k, none⟩ = some (.int .i64 (f k)) := hc k hlt
        clear hc
        have HN : Hid (mrB f (k + 1) = (mrB f k && ri3 0 (f k) 1099511627776)) := Lib.hid rfl
        generalize mrB f k = bk at HN ⊢
        generalize f k = z at *
        cases hcur : (b4 && bk)
        · have HV : Hid ((b4 && mrB f (k + 1)) = false) := Lib.hid (by rw [HN.out, ← Bool.and_assoc, hcur, Bool.false_and])
          go_wp2_with fail
          go_roundw
          case rel => exact ⟨k + 1, by omega, by go_num, by rw [HV.out], HBL.out⟩
          case measure => simp [intOf]; omega
        · have HV : Hid ((b4 && mrB f (k + 1)) = ri3 0 z 1099511627776) := Lib.hid (by rw [HN.out, ← Bool.and_assoc, hcur, Bool.true_and])
          clear hcur
          go_wp2_with fail
          refine (rise3 _ _ _ _).mono ?_
          rintro e v2 ⟨rfl, hb⟩
          have HL2 := Lib.hid (HBL.out.trans (hb.mono HBL.out.size))
          clear hb
          go_wp2_with fail
          go_roundw
          case rel => exact ⟨k + 1, by omega, by go_num, by rw [HV.out], HL2.out⟩
          case measure => simp [intOf]; omega
      · obtain rfl : k = m := by omega
        cases hbb : (b4 && mrB f k)
        · have HV : Hid (E = 1) := Lib.hid (by rw [HE2.out, hbb]; rfl)
          go_wp2_with fail
          go_ret
          exact ⟨ret_int HV.out.symm, HB3.out⟩
        · have HV : Hid (E = 0) := Lib.hid (by rw [HE2.out, hbb]; rfl)
          go_wp2_with fail
          go_ret
          exact ⟨ret_int HV.out.symm, HB3.out⟩
end Go.Proofs.Ytnmocdfogdcliaa
