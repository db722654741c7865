/- Contract of the reference's allowed. Contract of the reference's Release. Contract of the reference's Release: the walk. Contracts of the program's asked, allowed and after. Contracts of the program's allowed and after. Contracts of both functions Next. Contract of the program's Next. -/
import Derived.Test.YtonkjnkokikpgaaGreatRobust
namespace Go.Proofs.YtonkjnkokikpgaaGreat
open Go.RowKit

/-- may so much be released? -/
def alw (dm ou : Nat → Int) (t : Nat) (x r : Int) : Bool := ri3 (dm t) r (ou t) && decide (r ≤ x)

end Go.Proofs.YtonkjnkokikpgaaGreat
namespace Go.Proofs.YtonkjnkokikpgaaGreat
open Go.RowKit

/-- the error of Release, and what it says -/
def relE (cp st fl : Int) (n : Nat) (lo hi dm ou sp : Nat → Int) (t x : Int) : Int :=
  if ¬ askE cp st fl n lo hi dm ou sp t x = 0 then askE cp st fl n lo hi dm ou sp t x else
    if ri3 (rb cp fl n lo hi dm ou sp t.toNat).1 x (rb cp fl n lo hi dm ou sp t.toNat).2 = false then 390 else 0
def relV (cp st fl : Int) (n : Nat) (lo hi dm ou sp : Nat → Int) (t x : Int) : Int :=
  if relE cp st fl n lo hi dm ou sp t x = 0 then max (dm t.toNat) (x - kpH cp hi sp t.toNat (rb cp fl n lo hi dm ou sp (t.toNat + 1))) else 0
section
variable {cp st fl : Int} {n : Nat} {lo hi dm ou sp : Nat → Int} {t x : Int}
/-- what was asked is right -/
theorem ask_zero (h : askE cp st fl n lo hi dm ou sp t x = 0) : chkE cp st fl n lo hi dm ou sp = 0 ∧ (0 ≤ t ∧ t < n) ∧ 0 ≤ x ∧ x ≤ cp := by
  unfold askE at h
  split at h
  · rename_i h1; exact absurd h h1
  · rename_i h1
    split at h
    · cases h
    · rename_i h2
      split at h
      · cases h
      · rename_i h3
        have h4 : ri3 0 x cp = true := by revert h3; cases ri3 0 x cp <;> simp
        have h5 := ri3_iff.1 h4
        exact ⟨by omega, ⟨by omega, by omega⟩, h5.1, h5.2⟩
end
end Go.Proofs.YtonkjnkokikpgaaGreat
namespace Go.Proofs.YtonkjnkokikpgaaGreat
open Go.RowKit

/-- where a store is robust, the next moment has robust stores -/
theorem rb_next {cp fl : Int} {n : Nat} {lo hi dm ou sp : Nat → Int} (hg : Good cp fl n lo hi dm ou sp) {k : Nat} {x : Int} (hk : k < n) (h : ri3 (rb cp fl n lo hi dm ou sp k).1 x (rb cp fl n lo hi dm ou sp k).2 = true) :
    0 ≤ (rb cp fl n lo hi dm ou sp (k + 1)).1 ∧ (rb cp fl n lo hi dm ou sp (k + 1)).1 ≤ (rb cp fl n lo hi dm ou sp (k + 1)).2 ∧ (rb cp fl n lo hi dm ou sp (k + 1)).2 ≤ cp := by
  rcases rb_ok hg (k + 1) (by omega) with e | e
  · rw [rb_step hk, e] at h
    simp [bef, ri3] at h
    omega
  · exact e

end Go.Proofs.YtonkjnkokikpgaaGreat
namespace Go.Proofs.YtonkjnkokikpgaaGreat
open Go.RowKit

/-- are the further numbers right? -/
def mrB (f : Nat → Int) : Nat → Bool
  | 0 => true
  | k + 1 => mrB f k && ri3 0 (f k) 1099511627776
/-- the error of what was asked, with further numbers -/
def askM (cp st fl : Int) (n : Nat) (lo hi dm ou sp : Nat → Int) (t x : Int) (b : Bool) : Int := if askE cp st fl n lo hi dm ou sp t x = 0 then (if b = true then 0 else 1) else askE cp st fl n lo hi dm ou sp t x
section
variable {cp st fl : Int} {n : Nat} {lo hi dm ou sp : Nat → Int} {t x : Int}
theorem askM_bad {b : Bool} (h : ¬ chkE cp st fl n lo hi dm ou sp = 0) : askM cp st fl n lo hi dm ou sp t x b = chkE cp st fl n lo hi dm ou sp := by
  unfold askM askE
  rw [if_pos h, if_neg h]
theorem askM_ok {b : Bool} (h : chkE cp st fl n lo hi dm ou sp = 0) : askM cp st fl n lo hi dm ou sp t x b = if ((ri3 0 t ((n : Int) - 1) && ri3 0 x cp) && b) = true then 0 else 1 := by
  have ha : askE cp st fl n lo hi dm ou sp t x = if t < 0 ∨ (n : Int) ≤ t then 1 else if ri3 0 x cp = false then 1 else 0 := if_neg (Decidable.not_not.2 h)
  unfold askM
  rw [ha]
  by_cases h1 : t < 0 ∨ (n : Int) ≤ t
  · have h2 : ri3 0 t ((n : Int) - 1) = false := by
      cases h3 : ri3 0 t ((n : Int) - 1)
      · rfl
      · have := ri3_iff.1 h3; omega
    rw [if_pos h1, h2]
    simp
  · have h2 : ri3 0 t ((n : Int) - 1) = true := ri3_iff.2 (by omega)
    rw [if_neg h1, h2]
    cases ri3 0 x cp <;> cases b <;> simp
theorem askM_zero {b : Bool} (h : askM cp st fl n lo hi dm ou sp t x b = 0) : b = true ∧ chkE cp st fl n lo hi dm ou sp = 0 ∧ (0 ≤ t ∧ t < n) ∧ 0 ≤ x ∧ x ≤ cp := by
  unfold askM at h
  split at h
  · rename_i h1
    split at h
    · rename_i h2; exact ⟨h2, ask_zero h1⟩
    · cases h
  · rename_i h1; exact absurd h h1
end

set_option maxRecDepth 100000 in
set_option maxHeartbeats 8000000 in
theorem asked_37 {PA : Option Addr} {n pc : Nat} {cp st fl : Int} {lo hi dm ou sp : Nat → Int} (B : Nat) (t x : Int) (MA : Option Addr) (m mc : Nat) (f : Nat → Int) (w : World) (hn : n ≤ 9223372036854775807) (hm : m ≤ 2) (hB : B ≤ w.heap.size) (hr : Rd w B PA (n * 5) (psc lo hi dm ou sp)) (hf : Rd w w.heap.size MA m (fun j => .int .i64 (f j))) :
    Calls Tryz.prog 33 #[(.agg #[.int .i64 cp, .int .i64 st, .int .i64 fl, .slice PA n pc]), .int .i64 t, .int .i64 x, .slice MA m mc] w fun e w' => e = .returned (.int .i64 (askM cp st fl n lo hi dm ou sp t x (mrB f m))) ∧ Below w.heap.size w w' := by
  obtain ⟨w0, hw0⟩ : ∃ zz, zz = w.alloc (.cells #[.int .i64 cp, .int .i64 st, .int .i64 fl, .slice PA n pc] 30) := ⟨_, rfl⟩
  have HK0 : Hid (Blk w0 w.heap.size 30 #[.int .i64 cp, .int .i64 st, .int .i64 fl, .slice PA n pc]) := Lib.hid (hw0 ▸ Blk.new _ _ _)
  have HB0 : Hid (Below w.heap.size w w0) := Lib.hid (hw0 ▸ below_alloc _ _)
  have HW := Lib.hid hw0
  have HF := Lib.hid hf
  have HCK := Lib.hid (Check_14 (PA := PA) (pc := pc) (cp := cp) (st := st) (fl := fl) B w0 hn (by have := HB0.out.size; omega) (hr.below (HB0.out.mono hB)))
  have H64 : Hid ((chkE cp st fl n lo hi dm ou sp) = 0 → n ≤ 64) := Lib.hid fun h => (chk_zero h).1
  have HM1 : Hid (¬ (chkE cp st fl n lo hi dm ou sp) = 0 → askM cp st fl n lo hi dm ou sp t x (mrB f m) = (chkE cp st fl n lo hi dm ou sp)) := Lib.hid fun h => askM_bad h
  have HM2 : Hid ((chkE cp st fl n lo hi dm ou sp) = 0 → askM cp st fl n lo hi dm ou sp t x (mrB f m) = if ((ri3 0 t ((n : Int) - 1) && ri3 0 x cp) && mrB f m) = true then 0 else 1) := Lib.hid fun h => askM_ok h
  clear hw0 hr hf hn
  have c0 : w0.cell? ⟨w.heap.size, 0, none⟩ = some (.int .i64 cp) := HK0.out.cell 0
  have c1 : w0.cell? ⟨w.heap.size, 1, none⟩ = some (.int .i64 st) := HK0.out.cell 1
  have c2 : w0.cell? ⟨w.heap.size, 2, none⟩ = some (.int .i64 fl) := HK0.out.cell 2
  have c3 : w0.cell? ⟨w.heap.size, 3, none⟩ = some (.slice PA n pc) := HK0.out.cell 3
  generalize askM cp st fl n lo hi dm ou sp t x (mrB f m) = E at HM1 HM2 ⊢
  generalize (chkE cp st fl n lo hi dm ou sp) = CE at HCK H64 HM1 HM2
  go_enter Tryz.func33, Tryz.ntmps33
  go_upto_region 1 with fail
  rw [← HW.out]
  clear HW
  go_wp2_with fail
  refine HCK.out.mono ?_
  rintro e w1 ⟨rfl, hb⟩
  have HB1 := Lib.hid (HB0.out.trans (hb.mono HB0.out.size))
  have HK1 := Lib.hid (HK0.out.below hb HK0.out.lt)
  clear hb HK0 HB0 HCK c0 c1 c2 c3
  by_cases h1 : ¬ CE = 0
  · have HE := Lib.hid (HM1.out h1)
    have h1d : (CE == 0) = false := by simpa using h1
    go_wp2_with fail
    go_ret
    exact ⟨ret_int HE.out.symm, HB1.out⟩
  have h1 : CE = 0 := by omega
  subst h1
  have h64 := H64.out rfl
  have HE2 := Lib.hid (HM2.out rfl)
  clear H64 HM1 HM2
  obtain ⟨b4, hb4⟩ : ∃ b, b = (ri3 0 t ((n : Int) - 1) && ri3 0 x cp) := ⟨_, rfl⟩
  rw [← hb4] at HE2
  have H4 := Lib.hid hb4
  clear hb4
  have hwn : IntKind.i64.wrap ((n : Int) - 1) = n - 1 := IntWalk.i64_in _ ⟨by omega, by omega⟩
  have c0 : w1.cell? ⟨w.heap.size, 0, none⟩ = some (.int .i64 cp) := HK1.out.cell 0
  have c3 : w1.cell? ⟨w.heap.size, 2 + 1, none⟩ = some (.slice PA n pc) := HK1.out.cell 3
  go_upto_region 4 with fail
  go_cut [9] (fun s9 wc => s9 = .bool b4 ∧ Below w1.heap.size w1 wc)
  case first =>
    go_wp2_with fail
    refine (rise3 _ _ _ _).mono ?_
    rintro e w2 ⟨rfl, hb⟩
    have HL2 := Lib.hid hb
    clear c0 c3
    have c0 : w2.cell? ⟨w.heap.size, 0, none⟩ = some (.int .i64 cp) := (HK1.out.below hb HK1.out.lt).cell 0
    clear hb
    cases h2 : ri3 0 t ((n : Int) - 1)
    · have HV : Hid (false = b4) := Lib.hid (by rw [H4.out, h2]; rfl)
      clear h2
      go_wp2_with fail
      go_meet
      case rel => exact ⟨by rw [HV.out], HL2.out⟩
    · have HV : Hid (ri3 0 x cp = b4) := Lib.hid (by rw [H4.out, h2]; rfl)
      clear h2
      go_wp2_with fail
      refine (rise3 _ _ _ _).mono ?_
      rintro e w3 ⟨rfl, hb⟩
      have HL3 := Lib.hid (HL2.out.trans (hb.mono HL2.out.size))
      clear hb
      go_wp2_with fail
      go_meet
      case rel => exact ⟨by rw [HV.out], HL3.out⟩
  case rest =>
    obtain ⟨rfl, hb⟩ := hcut
    obtain ⟨v0, hyy⟩ : ∃ y, y = wc := ⟨_, rfl⟩
    subst hyy
    have HB2 := Lib.hid (HB1.out.trans (hb.mono HB1.out.size))
    clear hb HK1 HB1 c0 c3 H4
    have hz1 := HB2.out.size
    go_wp2_with fail
    go_loopw [9, 34] (fun s9 i wr => ∃ k : Nat, k ≤ m ∧ i = .int .i64 k ∧ s9 = .bool (b4 && mrB f k) ∧ Below v0.heap.size v0 wr) (fun _ i _ => m - (intOf i).toNat)
    case atStart => exact ⟨0, Nat.zero_le _, rfl, by simp [mrB], Below.refl _ _⟩
    case round =>
      obtain ⟨k, hk, rfl, rfl, hb⟩ := hrel
      have HBL := Lib.hid hb
      have HB3 := Lib.hid (HB2.out.trans (hb.mono hz1))
      have hz2 := hb.size
      clear hb
      by_cases hlt : k < m
      · have hlt' : (k : Int) < m := by omega
        obtain ⟨b, o, e, _, hc⟩ := HF.out.below HB3.out (by omega)
        subst e
        have p0 : wr.cell? ⟨b, o + k, none⟩ = some (.int .i64 (f k)) := hc k hlt
        clear hc
        have HN : Hid (mrB f (k + 1) = (mrB f k && ri3 0 (f k) 1099511627776)) := Lib.hid rfl
        generalize mrB f k = bk at HN ⊢
        generalize f k = z at *
        cases hcur : (b4 && bk)
        · have HV : Hid ((b4 && mrB f (k + 1)) = false) := Lib.hid (by rw [HN.out, ← Bool.and_assoc, hcur, Bool.false_and])
          go_wp2_with fail
          go_roundw
          case rel => exact ⟨k + 1, by omega, by go_num, by rw [HV.out], HBL.out⟩
          case measure => simp [intOf]; omega
        · have HV : Hid ((b4 && mrB f (k + 1)) = ri3 0 z 1099511627776) := Lib.hid (by rw [HN.out, ← Bool.and_assoc, hcur, Bool.true_and])
          clear hcur
          go_wp2_with fail
          refine (rise3 _ _ _ _).mono ?_
          rintro e v2 ⟨rfl, hb⟩
          have HL2 := Lib.hid (HBL.out.trans (hb.mono HBL.out.size))
          clear hb
          go_wp2_with fail
          go_roundw
          case rel => exact ⟨k + 1, by omega, by go_num, by rw [HV.out], HL2.out⟩
          case measure => simp [intOf]; omega
      · obtain rfl : k = m := by omega
        cases hbb : (b4 && mrB f k)
        · have HV : Hid (E = 1) := Lib.hid (by rw [HE2.out, hbb]; rfl)
          go_wp2_with fail
          go_ret
          exact ⟨ret_int HV.out.symm, HB3.out⟩
        · have HV : Hid (E = 0) := Lib.hid (by rw [HE2.out, hbb]; rfl)
          go_wp2_with fail
          go_ret
          exact ⟨ret_int HV.out.symm, HB3.out⟩
end Go.Proofs.YtonkjnkokikpgaaGreat
namespace Go.Proofs.YtonkjnkokikpgaaGreat
open Go.RowKit

theorem alw_min (dm ou : Nat → Int) (t : Nat) (x r : Int) : ri3 (dm t) r (min (ou t) x) = alw dm ou t x r := by
  rw [Bool.eq_iff_iff, alw, Bool.and_eq_true, ri3_iff, ri3_iff, decide_eq_true_iff]
  omega

set_option maxRecDepth 100000 in
set_option maxHeartbeats 4000000 in
theorem allowed_41 {PA : Option Addr} {n pc : Nat} {cp st fl : Int} {lo hi dm ou sp : Nat → Int} (B t : Nat) (x r : Int) (w : World) (ht : t < n) (hB : B ≤ w.heap.size) (hr : Rd w B PA (n * 5) (psc lo hi dm ou sp)) :
    Calls Tryz.prog 35 #[(.agg #[.int .i64 cp, .int .i64 st, .int .i64 fl, .slice PA n pc]), .int .i64 t, .int .i64 x, .int .i64 r] w fun e w' => e = .returned (.bool (alw dm ou t x r)) ∧ Below w.heap.size w w' := by
  obtain ⟨w0, hw0⟩ : ∃ zz, zz = w.alloc (.cells #[.int .i64 cp, .int .i64 st, .int .i64 fl, .slice PA n pc] 30) := ⟨_, rfl⟩
  have HK0 : Hid (Blk w0 w.heap.size 30 #[.int .i64 cp, .int .i64 st, .int .i64 fl, .slice PA n pc]) := Lib.hid (hw0 ▸ Blk.new _ _ _)
  have HB0 : Hid (Below w.heap.size w w0) := Lib.hid (hw0 ▸ below_alloc _ _)
  have HW := Lib.hid hw0
  clear hw0
  have ht' : (t : Int) < n := by omega
  have c3 : w0.cell? ⟨w.heap.size, 2 + 1, none⟩ = some (.slice PA n pc) := HK0.out.cell 3
  obtain ⟨b, o, rfl, _, _, _, p2, p3, _⟩ := per_at (hr.below (HB0.out.mono hB)) ht
  clear hr
  have HA : Hid (ri3 (dm t) r (min (ou t) x) = alw dm ou t x r) := Lib.hid (alw_min dm ou t x r)
  generalize alw dm ou t x r = V at HA ⊢
  generalize dm t = z2 at *
  generalize ou t = z3 at *
  go_enter Tryz.func35, Tryz.ntmps35
  go_upto_region 1 with fail
  rw [← HW.out]
  clear HW
  by_cases h1 : x < z3
  · have HY : Hid (ri3 z2 r x = V) := Lib.hid (by rw [← HA.out]; congr 1; omega)
    go_still_tail 15, (by kernel_rfl)
    change wpList _ _ _ _ _ w0.drew
    have HB1 : Hid (Below w.heap.size w w0.drew) := Lib.hid HB0.out.drew
    clear c3 p2 p3 HK0 HB0 HA
    generalize w0.drew = w1 at HB1 ⊢
    go_wp2_with fail
    refine (rise3 _ _ _ _).mono ?_
    rintro e w2 ⟨rfl, hb⟩
    have HB2 := Lib.hid (HB1.out.trans (hb.mono HB1.out.size))
    go_wp2_with fail
    go_ret
    exact ⟨ret_bool HY.out, HB2.out⟩
  · have HY : Hid (ri3 z2 r z3 = V) := Lib.hid (by rw [← HA.out]; congr 1; omega)
    go_still_tail 15, (by kernel_rfl)
    change wpList _ _ _ _ _ w0.drew
    have HB1 : Hid (Below w.heap.size w w0.drew) := Lib.hid HB0.out.drew
    clear c3 p2 p3 HK0 HB0 HA
    generalize w0.drew = w1 at HB1 ⊢
    go_wp2_with fail
    refine (rise3 _ _ _ _).mono ?_
    rintro e w2 ⟨rfl, hb⟩
    have HB2 := Lib.hid (HB1.out.trans (hb.mono HB1.out.size))
    go_wp2_with fail
    go_ret
    exact ⟨ret_bool HY.out, HB2.out⟩

/-- what comes next -/
def nxS (cp x r q : Int) : Int := max 0 (x - r + q - cp)
def nxN (cp x r q : Int) : Int := min (x - r + q) cp
def nxO (cp : Int) (sp : Nat → Int) (t : Nat) (x r q : Int) : Bool := decide (nxS cp x r q ≤ sp t)
/-- the three results -/
def nx3 (ok : Bool) (a b : Int) : Array Value := #[.int .i64 (if ok = true then a else 0), .int .i64 (if ok = true then b else 0), .bool ok]

set_option maxRecDepth 100000 in
set_option maxHeartbeats 4000000 in
theorem after_42 {PA : Option Addr} {n pc : Nat} {cp st fl : Int} {lo hi dm ou sp : Nat → Int} (B t : Nat) (x r q : Int) (w : World) (ht : t < n) (hcp : 0 ≤ cp ∧ cp ≤ 1099511627776) (hx : 0 ≤ x ∧ x ≤ 1099511627776) (hq : 0 ≤ q ∧ q ≤ 1099511627776) (hrr : 0 ≤ r ∧ r ≤ 1099511627776) (hB : B ≤ w.heap.size) (hr : Rd w B PA (n * 5) (psc lo hi dm ou sp)) :
    Calls Tryz.prog 36 #[(.agg #[.int .i64 cp, .int .i64 st, .int .i64 fl, .slice PA n pc]), .int .i64 t, .int .i64 x, .int .i64 r, .int .i64 q] w fun e w' => e = .returned (.tuple (nx3 (nxO cp sp t x r q) (nxN cp x r q) (nxS cp x r q))) ∧ Below w.heap.size w w' := by
  obtain ⟨w0, hw0⟩ : ∃ zz, zz = w.alloc (.cells #[.int .i64 cp, .int .i64 st, .int .i64 fl, .slice PA n pc] 30) := ⟨_, rfl⟩
  have HK0 : Hid (Blk w0 w.heap.size 30 #[.int .i64 cp, .int .i64 st, .int .i64 fl, .slice PA n pc]) := Lib.hid (hw0 ▸ Blk.new _ _ _)
  have HB0 : Hid (Below w.heap.size w w0) := Lib.hid (hw0 ▸ below_alloc _ _)
  have HW := Lib.hid hw0
  clear hw0
  have ht' : (t : Int) < n := by omega
  have c0 : w0.cell? ⟨w.heap.size, 0, none⟩ = some (.int .i64 cp) := HK0.out.cell 0
  have c3 : w0.cell? ⟨w.heap.size, 2 + 1, none⟩ = some (.slice PA n pc) := HK0.out.cell 3
  obtain ⟨b, o, rfl, _, _, _, _, _, p4⟩ := per_at (hr.below (HB0.out.mono hB)) ht
  clear hr
  have HO : Hid (nxO cp sp t x r q = decide (nxS cp x r q ≤ sp t)) := Lib.hid rfl
  have HN : Hid (nxN cp x r q = min (x - r + q) cp) := Lib.hid rfl
  have HS : Hid (nxS cp x r q = max 0 (x - r + q - cp)) := Lib.hid rfl
  generalize nxO cp sp t x r q = O at HO ⊢
  generalize nxN cp x r q = N at HN ⊢
  generalize nxS cp x r q = S at HO HS ⊢
  generalize sp t = z4 at *
  obtain ⟨y, hy⟩ : ∃ y, y = x - r + q := ⟨_, rfl⟩
  have hy0 : -1099511627776 ≤ y ∧ y ≤ 2199023255552 := by omega
  have hw1 : IntKind.i64.wrap (x - r) = x - r := IntWalk.i64_in _ ⟨by omega, by omega⟩
  have hw2 : IntKind.i64.wrap (x - r + q) = y := by rw [hy]; exact IntWalk.i64_in _ ⟨by omega, by omega⟩
  rw [← hy] at HN HS
  clear hy hx hq hrr
  go_enter Tryz.func36, Tryz.ntmps36
  go_upto_region 1 with fail
  rw [← HW.out]
  clear HW
  by_cases h1 : ¬ cp < y
  · have hs : S = 0 := by rw [HS.out]; omega
    have hn : N = y := by rw [HN.out]; omega
    subst hs; subst hn
    have hw3 : IntKind.i64.wrap (N - N) = 0 := by rw [Int.sub_self]; rfl
    by_cases h2 : z4 < 0
    · have ho : Hid (O = false) := Lib.hid (by rw [HO.out]; simp; omega)
      go_wp2_with fail
      go_ret3
      exact ⟨ret_val (by rw [ho.out]; rfl), HB0.out⟩
    · have ho : Hid (O = true) := Lib.hid (by rw [HO.out]; simp; omega)
      have h2d : decide (z4 < 0) = false := by simpa using h2
      go_wp2_with fail
      go_ret3
      exact ⟨ret_val (by rw [ho.out]; rfl), HB0.out⟩
  · have hs : S = y - cp := by rw [HS.out]; omega
    have hn : N = cp := by rw [HN.out]; omega
    have HN2 := Lib.hid hn
    subst hs
    clear hn HS HN
    by_cases h2 : z4 < y - cp
    · have ho : Hid (O = false) := Lib.hid (by rw [HO.out]; simp; omega)
      go_wp2_with fail
      go_ret3
      exact ⟨ret_val (by rw [ho.out]; rfl), HB0.out⟩
    · have ho : Hid (O = true) := Lib.hid (by rw [HO.out]; simp; omega)
      have h2d : decide (z4 < y - cp) = false := by simpa using h2
      go_wp2_with fail
      go_ret3
      exact ⟨ret_val (by rw [ho.out, HN2.out]; rfl), HB0.out⟩
end Go.Proofs.YtonkjnkokikpgaaGreat
namespace Go.Proofs.YtonkjnkokikpgaaGreat
open Go.RowKit

/-- what Next says -/
def nxE (cp st fl : Int) (n : Nat) (lo hi dm ou sp : Nat → Int) (t x r q : Int) : Int := askM cp st fl n lo hi dm ou sp t x (ri3 0 r 1099511627776 && ri3 0 q 1099511627776)
def nxB (cp st fl : Int) (n : Nat) (lo hi dm ou sp : Nat → Int) (t x r q : Int) : Bool := decide (nxE cp st fl n lo hi dm ou sp t x r q = 0) && (alw dm ou t.toNat x r && nxO cp sp t.toNat x r q)
def nx4 (b : Bool) (a s e : Int) : Array Value := #[.int .i64 (if b = true then a else 0), .int .i64 (if b = true then s else 0), .bool b, .int .i64 e]
def nxV (cp st fl : Int) (n : Nat) (lo hi dm ou sp : Nat → Int) (t x r q : Int) : Value := .tuple (nx4 (nxB cp st fl n lo hi dm ou sp t x r q) (nxN cp x r q) (nxS cp x r q) (nxE cp st fl n lo hi dm ou sp t x r q))
theorem alw_pos {dm ou : Nat → Int} {t : Nat} {x r : Int} (h : alw dm ou t x r = true) : dm t ≤ r ∧ r ≤ ou t ∧ r ≤ x := by
  unfold alw at h
  rw [Bool.and_eq_true, ri3_iff, decide_eq_true_iff] at h
  omega

end Go.Proofs.YtonkjnkokikpgaaGreat
namespace Go.Proofs.YtonkjnkokikpgaaGreat
open Go.RowKit

set_option maxRecDepth 100000 in
set_option maxHeartbeats 8000000 in
theorem Next_19 {PA : Option Addr} {n pc : Nat} {cp st fl : Int} {lo hi dm ou sp : Nat → Int} (B : Nat) (t x r q : Int) (w : World) (hn : n ≤ 9223372036854775807) (hB : B ≤ w.heap.size) (hr : Rd w B PA (n * 5) (psc lo hi dm ou sp)) :
    Calls Tryz.prog 14 #[(.agg #[.int .i64 cp, .int .i64 st, .int .i64 fl, .slice PA n pc]), .int .i64 t, .int .i64 x, .int .i64 r, .int .i64 q] w fun e w' => e = .returned (nxV cp st fl n lo hi dm ou sp t x r q) ∧ Below w.heap.size w w' := by
  obtain ⟨w0, hw0⟩ : ∃ zz, zz = w.alloc (.cells #[.int .i64 cp, .int .i64 st, .int .i64 fl, .slice PA n pc] 30) := ⟨_, rfl⟩
  have HK0 : Hid (Blk w0 w.heap.size 30 #[.int .i64 cp, .int .i64 st, .int .i64 fl, .slice PA n pc]) := Lib.hid (hw0 ▸ Blk.new _ _ _)
  have HB0 : Hid (Below w.heap.size w w0) := Lib.hid (hw0 ▸ below_alloc _ _)
  have HW := Lib.hid hw0
  have HRD := Lib.hid hr
  have hrn := rd_new w0 #[.int .i64 r, .int .i64 q] 3 (fun j => .int .i64 ([r, q].getD j 0)) (fun j hj => by
    match j, hj with
    | 0, _ => rfl
    | 1, _ => rfl)
  have HAK0 := asked_37 (PA := PA) (pc := pc) (cp := cp) (st := st) (fl := fl) B t x (some ⟨w0.heap.size, 0, none⟩) 2 2 (fun j => [r, q].getD j 0) (w0.alloc (.cells #[.int .i64 r, .int .i64 q] 3)) hn (by omega) (by have := HB0.out.size; simp; omega) ((hr.below (HB0.out.mono hB)).alloc (by have := HB0.out.size; omega) _) (by rw [World.size_alloc]; exact hrn)
  rw [show mrB (fun j => [r, q].getD j 0) 2 = (ri3 0 r 1099511627776 && ri3 0 q 1099511627776) by simp [mrB]] at HAK0
  have HAK : Hid (Calls Tryz.prog 33 #[(.agg #[.int .i64 cp, .int .i64 st, .int .i64 fl, .slice PA n pc]), .int .i64 t, .int .i64 x, .slice (some ⟨w0.heap.size, 0, none⟩) 2 2] (w0.alloc (.cells #[.int .i64 r, .int .i64 q] 3)) fun e w' => e = .returned (.int .i64 (nxE cp st fl n lo hi dm ou sp t x r q)) ∧ Below w0.heap.size w0 w') := Lib.hid (HAK0.mono fun e w' h => ⟨h.1, (below_alloc w0 _).trans (h.2.mono (by simp))⟩)
  clear hw0 hr hrn HAK0
  have c0 : w0.cell? ⟨w.heap.size, 0, none⟩ = some (.int .i64 cp) := HK0.out.cell 0
  have c1 : w0.cell? ⟨w.heap.size, 1, none⟩ = some (.int .i64 st) := HK0.out.cell 1
  have c2 : w0.cell? ⟨w.heap.size, 2, none⟩ = some (.int .i64 fl) := HK0.out.cell 2
  have c3 : w0.cell? ⟨w.heap.size, 3, none⟩ = some (.slice PA n pc) := HK0.out.cell 3
  have HA0 : Hid (nxE cp st fl n lo hi dm ou sp t x r q = 0 → (ri3 0 r 1099511627776 && ri3 0 q 1099511627776) = true ∧ (chkE cp st fl n lo hi dm ou sp) = 0 ∧ (0 ≤ t ∧ t < n) ∧ 0 ≤ x ∧ x ≤ cp) := Lib.hid askM_zero
  have HG : Hid ((chkE cp st fl n lo hi dm ou sp) = 0 → Good cp fl n lo hi dm ou sp) := Lib.hid good_of
  have HBB : Hid (nxB cp st fl n lo hi dm ou sp t x r q = (decide (nxE cp st fl n lo hi dm ou sp t x r q = 0) && (alw dm ou t.toNat x r && nxO cp sp t.toNat x r q))) := Lib.hid rfl
  have HV : Hid (nxV cp st fl n lo hi dm ou sp t x r q = .tuple (nx4 (nxB cp st fl n lo hi dm ou sp t x r q) (nxN cp x r q) (nxS cp x r q) (nxE cp st fl n lo hi dm ou sp t x r q))) := Lib.hid rfl
  generalize nxV cp st fl n lo hi dm ou sp t x r q = V at HV ⊢
  generalize nxB cp st fl n lo hi dm ou sp t x r q = BB at HV HBB
  generalize nxE cp st fl n lo hi dm ou sp t x r q = E at HV HBB HAK HA0
  go_enter Tryz.func14, Tryz.ntmps14
  go_upto_region 1 with fail
  rw [← HW.out]
  clear HW
  go_wp2_with fail
  refine HAK.out.mono ?_
  rintro e w1 ⟨rfl, hb⟩
  have HB1 := Lib.hid (HB0.out.trans (hb.mono HB0.out.size))
  have HK1 := Lib.hid (HK0.out.below hb HK0.out.lt)
  clear hb HK0 HB0 HAK c0 c1 c2 c3
  by_cases h1 : ¬ E = 0
  · have HV2 : Hid (BB = false) := Lib.hid (by rw [HBB.out]; simp [h1])
    have h1d : (E == 0) = false := by simpa using h1
    go_wp2_with fail
    refine bodyPost_ret (results_tmp4 rfl _ _ _) rfl ?_
    exact ⟨ret_val (by rw [HV.out, HV2.out]; rfl), HB1.out⟩
  have h1 : E = 0 := by omega
  subst h1
  obtain ⟨a0, a1, ⟨a2, a3⟩, a4, a5⟩ := HA0.out rfl
  rw [Bool.and_eq_true, ri3_iff, ri3_iff] at a0
  have HGG := Lib.hid (HG.out a1)
  clear HG HA0 a1
  obtain ⟨k, rfl⟩ : ∃ k : Nat, t = k := ⟨t.toNat, by omega⟩
  rw [Int.toNat_natCast] at HBB
  have c0 : w1.cell? ⟨w.heap.size, 0, none⟩ = some (.int .i64 cp) := HK1.out.cell 0
  have c1 : w1.cell? ⟨w.heap.size, 1, none⟩ = some (.int .i64 st) := HK1.out.cell 1
  have c2 : w1.cell? ⟨w.heap.size, 2, none⟩ = some (.int .i64 fl) := HK1.out.cell 2
  have c3 : w1.cell? ⟨w.heap.size, 3, none⟩ = some (.slice PA n pc) := HK1.out.cell 3
  have hkn : k < n := by omega
  have HAL := Lib.hid (allowed_41 (PA := PA) (pc := pc) (cp := cp) (st := st) (fl := fl) (lo := lo) (hi := hi) (dm := dm) (ou := ou) (sp := sp) B k x r w1 hkn (by have := HB1.out.size; omega) (HRD.out.below (HB1.out.mono hB)))
  generalize alw dm ou k x r = AL at HAL HBB
  go_wp2_with fail
  refine HAL.out.mono ?_
  rintro e w2 ⟨rfl, hb⟩
  have HB2 := Lib.hid (HB1.out.trans (hb.mono HB1.out.size))
  have HK2 := Lib.hid (HK1.out.below hb HK1.out.lt)
  clear hb HB1 HK1 c0 c1 c2 c3 HAL
  cases AL
  · have HV2 : Hid (BB = false) := Lib.hid (by rw [HBB.out]; simp)
    go_wp2_with fail
    refine bodyPost_ret (results_tmp4 rfl _ _ _) rfl ?_
    exact ⟨ret_val (by rw [HV.out, HV2.out]; rfl), HB2.out⟩
  have hcp := HGG.out.2.1
  have c0 : w2.cell? ⟨w.heap.size, 0, none⟩ = some (.int .i64 cp) := HK2.out.cell 0
  have c1 : w2.cell? ⟨w.heap.size, 1, none⟩ = some (.int .i64 st) := HK2.out.cell 1
  have c2 : w2.cell? ⟨w.heap.size, 2, none⟩ = some (.int .i64 fl) := HK2.out.cell 2
  have c3 : w2.cell? ⟨w.heap.size, 3, none⟩ = some (.slice PA n pc) := HK2.out.cell 3
  have HAF := Lib.hid (after_42 (PA := PA) (pc := pc) (cp := cp) (st := st) (fl := fl) (lo := lo) (hi := hi) (dm := dm) (ou := ou) (sp := sp) B k x r q w2 hkn hcp (by omega) a0.2 a0.1 (by have := HB2.out.size; omega) (HRD.out.below (HB2.out.mono hB)))
  have HBO : Hid (BB = nxO cp sp k x r q) := Lib.hid (by rw [HBB.out]; simp)
  clear HBB HRD
  generalize nxN cp x r q = N at HV HAF
  generalize nxS cp x r q = S at HV HAF
  generalize nxO cp sp k x r q = O at HAF HBO
  unfold nx3 at HAF
  cases O
  · simp only [Bool.false_eq_true, if_false] at HAF
    go_wp2_with fail
    refine HAF.out.mono ?_
    rintro e w3 ⟨rfl, hb⟩
    have HB3 := Lib.hid (HB2.out.trans (hb.mono HB2.out.size))
    clear hb
    go_wp2_with fail
    refine bodyPost_ret (results_tmp4 rfl _ _ _) rfl ?_
    exact ⟨ret_val (by rw [HV.out, HBO.out]; rfl), HB3.out⟩
  · simp only [if_true] at HAF
    go_wp2_with fail
    refine HAF.out.mono ?_
    rintro e w3 ⟨rfl, hb⟩
    have HB3 := Lib.hid (HB2.out.trans (hb.mono HB2.out.size))
    clear hb
    go_wp2_with fail
    refine bodyPost_ret (results_tmp4 rfl _ _ _) rfl ?_
    exact ⟨ret_val (by rw [HV.out, HBO.out]; rfl), HB3.out⟩
end Go.Proofs.YtonkjnkokikpgaaGreat
