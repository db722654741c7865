/- Contract of the reference's Check. No condition. -/
import Derived.Test.YtfddlodfmmnanaaCheck
import Derived.Deep.QuietTactic
import Derived.BigQuiet
namespace Go.Proofs.Ytfddlodfmmnanaa
open Go.RowKit

theorem head_3a {no rc cl dr si : Int} {n : Nat} (h : inB 1000 cl = false) : headB no rc cl dr si n = false := by simp [headB, h]
theorem head_3b {no rc cl dr si : Int} {n : Nat} (h : inB 1000 dr = false) : headB no rc cl dr si n = false := by simp [headB, h]
theorem refw (most a : Int) (w : World) : Calls Try.prog 21 #[.int .i64 a, .int .i64 0, .int .i64 most] w fun e w' => e = .returned (.bool (inB most a)) ∧ w = w' := ref_within_21 a 0 most w

set_option maxRecDepth 100000 in
set_option maxHeartbeats 2000000 in
theorem ref_check_14 (no rc cl dr si : Int) (A : Option Addr) (n c B : Nat) (S F : Nat → Int) (w : World) (hm : n ≤ 9223372036854775807) (hB : B ≤ w.heap.size) (hr : n ≤ 64 → RdP w B A n S F) :
    Calls Try.prog 14 #[gv no rc cl dr si A n c] w fun e w' => e = .returned (.int .i64 (chk no rc cl dr si n S F)) ∧ Below w.heap.size w w' := by
  by_cases hn : 64 < n
  · have hn' : (64 : Int) < n := by omega
    have HV := Lib.hid (chk_big (no := no) (rc := rc) (cl := cl) (dr := dr) (si := si) (S := S) (F := F) hn)
    generalize chk no rc cl dr si n S F = r at HV ⊢
    unfold gv
    go_enter Try.func14, Try.ntmps14
    go_wp2_with fail
    go_ret
    exact ⟨ret_int HV.out.symm, below_alloc _ _⟩
  have HR := Lib.hid (hr (by omega))
  clear hr
  have hn1 : (n : Int) ≤ 64 := by omega
  have HBAD : Hid (headB no rc cl dr si n = false ∨ rowsB S F n = false → chk no rc cl dr si n S F = 240) := Lib.hid (chk_bad hn)
  have HOK : Hid (headB no rc cl dr si n = true → rowsB S F n = true → chk no rc cl dr si n S F = 0) := Lib.hid (chk_ok hn)
  generalize chk no rc cl dr si n S F = r at HBAD HOK ⊢
  unfold gv
  go_enter Try.func14, Try.ntmps14
  go_wp2_with fail
  refine (refw _ _ _).mono ?_
  rintro e w' ⟨rfl, rfl⟩
  cases h1 : inB 1048576 no
  · have HV := Lib.hid (HBAD.out (.inl (head_1 h1)))
    clear h1
    go_wp2_with fail
    go_ret
    exact ⟨ret_int HV.out.symm, by (repeat (first | exact Below.refl _ _ | exact below_alloc _ _ | refine Below.alloc ?_ (by simp; omega) _ | refine Below.alloc ?_ (by simp) _))⟩
  have H1 := Lib.hid h1
  clear h1
  go_wp2_with fail
  refine (refw _ _ _).mono ?_
  rintro e w' ⟨rfl, rfl⟩
  cases h1 : inB 63 rc
  · have HV := Lib.hid (HBAD.out (.inl (head_2 h1)))
    clear h1
    go_wp2_with fail
    go_ret
    exact ⟨ret_int HV.out.symm, by (repeat (first | exact Below.refl _ _ | exact below_alloc _ _ | refine Below.alloc ?_ (by simp; omega) _ | refine Below.alloc ?_ (by simp) _))⟩
  have H2 := Lib.hid h1
  clear h1
  go_wp2_with fail
  refine (refw _ _ _).mono ?_
  rintro e w' ⟨rfl, rfl⟩
  cases h1 : inB 1000 cl
  · have HV := Lib.hid (HBAD.out (.inl (head_3a h1)))
    clear h1
    go_wp2_with fail
    go_ret
    exact ⟨ret_int HV.out.symm, by (repeat (first | exact Below.refl _ _ | exact below_alloc _ _ | refine Below.alloc ?_ (by simp; omega) _ | refine Below.alloc ?_ (by simp) _))⟩
  have H3 := Lib.hid h1
  clear h1
  go_wp2_with fail
  refine (refw _ _ _).mono ?_
  rintro e w' ⟨rfl, rfl⟩
  cases h1 : inB 1000 dr
  · have HV := Lib.hid (HBAD.out (.inl (head_3b h1)))
    clear h1
    go_wp2_with fail
    go_ret
    exact ⟨ret_int HV.out.symm, by (repeat (first | exact Below.refl _ _ | exact below_alloc _ _ | refine Below.alloc ?_ (by simp; omega) _ | refine Below.alloc ?_ (by simp) _))⟩
  have H3' := Lib.hid h1
  clear h1
  go_wp2_with fail
  refine (refw _ _ _).mono ?_
  rintro e w' ⟨rfl, rfl⟩
  cases h1 : inB 4096 si
  · have HV := Lib.hid (HBAD.out (.inl (head_4 h1)))
    clear h1
    go_wp2_with fail
    go_ret
    exact ⟨ret_int HV.out.symm, by (repeat (first | exact Below.refl _ _ | exact below_alloc _ _ | refine Below.alloc ?_ (by simp; omega) _ | refine Below.alloc ?_ (by simp) _))⟩
  have H4 := Lib.hid h1
  clear h1
  by_cases hn0 : n = 0
  · have HV := Lib.hid (HBAD.out (.inl (head_5 hn0)))
    subst hn0
    go_wp2_with fail
    go_ret
    exact ⟨ret_int HV.out.symm, by (repeat (first | exact Below.refl _ _ | exact below_alloc _ _ | refine Below.alloc ?_ (by simp; omega) _ | refine Below.alloc ?_ (by simp) _))⟩
  have hn0' : ((n : Int) == 0) = false := by rw [beq_eq_false_iff_ne]; omega
  have HHD : Hid (headB no rc cl dr si n = true) := Lib.hid (by simp only [headB, H1.out, H2.out, H3.out, H3'.out, H4.out]; simp [hn0])
  go_wp2_with fail
  have HB0 : Hid (Below w.heap.size w (w.alloc (.cells #[.int .i64 no, .int .i64 rc, .int .i64 cl, .int .i64 dr, .int .i64 si, .slice A n c] 24))) := Lib.hid (below_alloc _ _)
  have HG0 : Hid (Blk (w.alloc (.cells #[.int .i64 no, .int .i64 rc, .int .i64 cl, .int .i64 dr, .int .i64 si, .slice A n c] 24)) w.heap.size 24 #[.int .i64 no, .int .i64 rc, .int .i64 cl, .int .i64 dr, .int .i64 si, .slice A n c]) := Lib.hid (Blk.new _ _ _)
  have hs0 : w.heap.size + 1 ≤ (w.alloc (.cells #[.int .i64 no, .int .i64 rc, .int .i64 cl, .int .i64 dr, .int .i64 si, .slice A n c] 24)).heap.size := by simp
  generalize w.alloc (.cells #[.int .i64 no, .int .i64 rc, .int .i64 cl, .int .i64 dr, .int .i64 si, .slice A n c] 24) = w0 at HB0 HG0 hs0 ⊢
  go_loopw [3] (fun i wr => ∃ k : Nat, k ≤ n ∧ i = .int .i64 k ∧ Hid (rowsB S F k = true) ∧ Below (w.heap.size + 1) w0 wr) (fun i _ => n - (intOf i).toNat)
  case atStart => exact ⟨0, Nat.zero_le _, rfl, Lib.hid rfl, Below.refl _ _⟩
  case round =>
    obtain ⟨k, hk, rfl, HK, hb⟩ := hrel
    have HB1 := Lib.hid hb
    have HB := Lib.hid (HB0.out.trans (hb.mono (by omega)))
    have hsz := HB.out.size
    have hsz1 := hb.size
    have cg : wr.cell? ⟨w.heap.size, 5, none⟩ = some (.slice A n c) := (HG0.out.below hb (by omega)).cell 5
    clear hb
    by_cases hlt : k < n
    · have hlt' : (k : Int) < n := by omega
      obtain ⟨b, off, rfl, hbB, c1, c2⟩ := RdP.at_ (HR.out.below (HB.out.mono hB)) hlt
      have hbb : b < wr.heap.size := World.block_lt_of_cell? _ _ c1
      have hbad : rowB S F k = false → r = 240 := fun h => HBAD.out (.inr (rowsB_bad h n hlt))
      have HBR := Lib.hid hbad
      clear hbad
      go_wp2_with fail
      have HX : Hid (Blk (wr.alloc (.cells #[.int .i64 (S k), .int .i64 (F k)] 39)) wr.heap.size 39 #[.int .i64 (S k), .int .i64 (F k)]) := Lib.hid (Blk.new _ _ _)
      have HBX : Hid (Below wr.heap.size wr (wr.alloc (.cells #[.int .i64 (S k), .int .i64 (F k)] 39))) := Lib.hid (below_alloc _ _)
      generalize wr.alloc (.cells #[.int .i64 (S k), .int .i64 (F k)] 39) = wx at HX HBX ⊢
      have cx0 : wx.cell? ⟨wr.heap.size, 0, none⟩ = some (.int .i64 (S k)) := HX.out.cell 0
      have cx1 : wx.cell? ⟨wr.heap.size, 1, none⟩ = some (.int .i64 (F k)) := HX.out.cell 1
      have cgx : wx.cell? ⟨w.heap.size, 5, none⟩ = some (.slice (some ⟨b, off, none⟩) n c) := (HBX.out.cell (by simp; omega)).trans cg
      have HTX : Hid (RdP wx B (some ⟨b, off, none⟩) n S F) := Lib.hid (HR.out.below ((HB.out.mono hB).trans (HBX.out.mono (by omega))))
      clear c1 c2 cg
      refine (refw _ _ _).mono ?_
      rintro e w' ⟨rfl, rfl⟩
      cases h1 : inB 1048576 (S k)
      · have HV := Lib.hid (HBR.out (by simp [rowB, h1]))
        clear h1
        go_wp2_with fail
        go_ret
        exact ⟨ret_int HV.out.symm, HB.out.trans (HBX.out.mono hsz)⟩
      have H5 := Lib.hid h1
      clear h1
      go_wp2_with fail
      refine (refw _ _ _).mono ?_
      rintro e w' ⟨rfl, rfl⟩
      cases h1 : inB 1073741824 (F k)
      · have HV := Lib.hid (HBR.out (by simp [rowB, h1]))
        clear h1
        go_wp2_with fail
        go_ret
        exact ⟨ret_int HV.out.symm, HB.out.trans (HBX.out.mono hsz)⟩
      have H6 := Lib.hid h1
      clear h1
      by_cases hk0 : k = 0
      · subst hk0
        have HRK : Hid (rowB S F 0 = true) := Lib.hid (by
          have h5 := inB_iff.1 H5.out
          have h6 := inB_iff.1 H6.out
          simp [rowB, H5.out, H6.out, prevS, prevF]
          omega)
        go_wp2_with fail
        go_quiet (fail)
        go_wp2_with fail
        go_roundw
        case rel => exact ⟨1, by omega, by go_num, Lib.hid (by simp [rowsB, HRK.out]), below_quiet (HB1.out.trans (HBX.out.mono (by omega))) ⟨_, rfl⟩⟩
        case measure => simp [intOf]; omega
      · have hkp : (0 : Int) < k := by omega
        obtain ⟨p, rfl⟩ : ∃ p, k = p + 1 := ⟨k - 1, by omega⟩
        obtain ⟨q1, q2⟩ := HTX.out.here (k := p) (by omega)
        have hkz : ((p + 1 : Nat) : Int) - 1 = p := by omega
        by_cases h3 : S (p + 1) ≤ S p
        · have HV := Lib.hid (HBR.out (by have : ¬ prevS S (p + 1) < S (p + 1) := by simp [prevS]; omega
                                          simp [rowB, this]))
          have h3d : decide (S (p + 1) ≤ S p) = true := by simpa using h3
          go_wp2_with fail
          go_quiet (fail)
          go_wp2_with fail
          go_ret
          exact ⟨ret_int HV.out.symm, below_quiet (HB.out.trans (HBX.out.mono hsz)) ⟨_, rfl⟩⟩
        · have h3' : S p < S (p + 1) := by omega
          have h3d : decide (S (p + 1) ≤ S p) = false := by simpa using h3'
          by_cases h4 : F (p + 1) < F p
          · have HV := Lib.hid (HBR.out (by have : ¬ prevF F (p + 1) ≤ F (p + 1) := by simp [prevF]; omega
                                            simp [rowB, this]))
            have h4d : decide (F (p + 1) < F p) = true := by simpa using h4
            go_wp2_with fail
            go_quiet (fail)
            go_wp2_with fail
            go_ret
            exact ⟨ret_int HV.out.symm, below_quiet (HB.out.trans (HBX.out.mono hsz)) ⟨_, rfl⟩⟩
          · have h4' : F p ≤ F (p + 1) := by omega
            have h4d : decide (F (p + 1) < F p) = false := by simpa using h4'
            have HRK : Hid (rowB S F (p + 1) = true) := Lib.hid (by simp [rowB, H5.out, H6.out, prevS, prevF, h3', h4'])
            go_wp2_with fail
            go_quiet (fail)
            go_wp2_with fail
            go_roundw
            case rel => exact ⟨p + 1 + 1, by omega, by go_num, Lib.hid (by rw [rowsB, HK.out, HRK.out]; rfl), below_quiet (HB1.out.trans (HBX.out.mono (by omega))) ⟨_, rfl⟩⟩
            case measure => simp [intOf]; omega
    · obtain rfl : k = n := by omega
      have HV := Lib.hid (HOK.out HHD.out HK.out)
      go_wp2_with fail
      go_ret
      exact ⟨ret_int HV.out.symm, HB.out⟩
end Go.Proofs.Ytfddlodfmmnanaa
