/- Contract of Check. No condition. -/
import Derived.Test.YtfddlodfmmnanaaModel
namespace Go.Proofs.Ytfddlodfmmnanaa
open Go.RowKit

theorem head_1 {no rc cl dr si : Int} {n : Nat} (h : inB 1048576 no = false) : headB no rc cl dr si n = false := by simp [headB, h]
theorem head_2 {no rc cl dr si : Int} {n : Nat} (h : inB 63 rc = false) : headB no rc cl dr si n = false := by simp [headB, h]
theorem head_3 {no rc cl dr si : Int} {n : Nat} (h : (inB 1000 cl && inB 1000 dr) = false) : headB no rc cl dr si n = false := by simp only [headB, h]; simp
theorem head_4 {no rc cl dr si : Int} {n : Nat} (h : inB 4096 si = false) : headB no rc cl dr si n = false := by simp [headB, h]
theorem head_5 {no rc cl dr si : Int} {n : Nat} (h : n = 0) : headB no rc cl dr si n = false := by simp [headB, h]

set_option maxRecDepth 100000 in
set_option maxHeartbeats 2000000 in
theorem check_13 (no rc cl dr si : Int) (A : Option Addr) (n c B : Nat) (S F : Nat → Int) (w : World) (hm : n ≤ 9223372036854775807) (hB : B ≤ w.heap.size) (hr : n ≤ 64 → RdP w B A n S F) :
    Calls Try.prog 13 #[gv no rc cl dr si A n c] w fun e w' => e = .returned (.int .i64 (chk no rc cl dr si n S F)) ∧ Below w.heap.size w w' := by
  by_cases hn : 64 < n
  · have hn' : (64 : Int) < n := by omega
    have HV := Lib.hid (chk_big (no := no) (rc := rc) (cl := cl) (dr := dr) (si := si) (S := S) (F := F) hn)
    generalize chk no rc cl dr si n S F = r at HV ⊢
    unfold gv
    go_enter Try.func13, Try.ntmps13
    go_wp2_with fail
    go_ret
    exact ⟨ret_int HV.out.symm, below_alloc _ _⟩
  have HR := Lib.hid (hr (by omega))
  clear hr
  have hn1 : (n : Int) ≤ 64 := by omega
  have HBAD : Hid (headB no rc cl dr si n = false ∨ rowsB S F n = false → chk no rc cl dr si n S F = 240) := Lib.hid (chk_bad hn)
  have HOK : Hid (headB no rc cl dr si n = true → rowsB S F n = true → chk no rc cl dr si n S F = 0) := Lib.hid (chk_ok hn)
  generalize chk no rc cl dr si n S F = r at HBAD HOK ⊢
  unfold gv
  go_enter Try.func13, Try.ntmps13
  go_wp2_with fail
  refine (within_one _ _ _ _ (by simp)).mono ?_
  rintro e w' ⟨rfl, rfl⟩
  cases h1 : inB 1048576 no
  · have HV := Lib.hid (HBAD.out (.inl (head_1 h1)))
    clear h1
    go_wp2_with fail
    go_ret
    exact ⟨ret_int HV.out.symm, by (repeat (first | exact Below.refl _ _ | exact below_alloc _ _ | refine Below.alloc ?_ (by simp; omega) _ | refine Below.alloc ?_ (by simp) _))⟩
  have H1 := Lib.hid h1
  clear h1
  go_wp2_with fail
  refine (within_one _ _ _ _ (by simp)).mono ?_
  rintro e w' ⟨rfl, rfl⟩
  cases h1 : inB 63 rc
  · have HV := Lib.hid (HBAD.out (.inl (head_2 h1)))
    clear h1
    go_wp2_with fail
    go_ret
    exact ⟨ret_int HV.out.symm, by (repeat (first | exact Below.refl _ _ | exact below_alloc _ _ | refine Below.alloc ?_ (by simp; omega) _ | refine Below.alloc ?_ (by simp) _))⟩
  have H2 := Lib.hid h1
  clear h1
  go_wp2_with fail
  refine (within_two _ _ _ _ _ (by simp)).mono ?_
  rintro e w' ⟨rfl, rfl⟩
  cases h1 : (inB 1000 cl && inB 1000 dr)
  · have HV := Lib.hid (HBAD.out (.inl (head_3 h1)))
    clear h1
    go_wp2_with fail
    go_ret
    exact ⟨ret_int HV.out.symm, by (repeat (first | exact Below.refl _ _ | exact below_alloc _ _ | refine Below.alloc ?_ (by simp; omega) _ | refine Below.alloc ?_ (by simp) _))⟩
  have H3 := Lib.hid h1
  clear h1
  go_wp2_with fail
  refine (within_one _ _ _ _ (by simp)).mono ?_
  rintro e w' ⟨rfl, rfl⟩
  cases h1 : inB 4096 si
  · have HV := Lib.hid (HBAD.out (.inl (head_4 h1)))
    clear h1
    go_wp2_with fail
    go_ret
    exact ⟨ret_int HV.out.symm, by (repeat (first | exact Below.refl _ _ | exact below_alloc _ _ | refine Below.alloc ?_ (by simp; omega) _ | refine Below.alloc ?_ (by simp) _))⟩
  have H4 := Lib.hid h1
  clear h1
  by_cases hn0 : n = 0
  · have HV := Lib.hid (HBAD.out (.inl (head_5 hn0)))
    subst hn0
    go_wp2_with fail
    go_ret
    exact ⟨ret_int HV.out.symm, by (repeat (first | exact Below.refl _ _ | exact below_alloc _ _ | refine Below.alloc ?_ (by simp; omega) _ | refine Below.alloc ?_ (by simp) _))⟩
  have hn0' : ((n : Int) == 0) = false := by rw [beq_eq_false_iff_ne]; omega
  have HHD : Hid (headB no rc cl dr si n = true) := Lib.hid (by simp only [headB, H1.out, H2.out, H3.out, H4.out]; simp [hn0])
  go_wp2_with fail
  obtain ⟨W0, hW0⟩ : ∃ W0, W0 = ((((w.alloc (.cells #[.int .i64 no, .int .i64 rc, .int .i64 cl, .int .i64 dr, .int .i64 si, .slice A n c] 24)).alloc (.cells #[.int .i64 no] 3)).alloc (.cells #[.int .i64 rc] 3)).alloc (.cells #[.int .i64 cl, .int .i64 dr] 3)).alloc (.cells #[.int .i64 si] 3) := ⟨_, rfl⟩
  have hs0 : W0.heap.size = w.heap.size + 1 + 1 + 1 + 1 + 1 := by rw [hW0]; simp
  have HB0 : Hid (Below w.heap.size w W0) := Lib.hid (by rw [hW0]; (repeat (first | exact Below.refl _ _ | exact below_alloc _ _ | refine Below.alloc ?_ (by simp; omega) _ | refine Below.alloc ?_ (by simp) _)))
  rw [← hW0, ← hs0]
  clear hW0
  have hws : w.heap.size ≤ W0.heap.size := by omega
  clear hs0
  have HBN : Hid (Blk (W0.alloc (.cells #[.int .i64 (-1), .int .i64 0] 39)) W0.heap.size 39 #[.int .i64 (-1), .int .i64 0]) := Lib.hid (Blk.new _ _ _)
  go_loopw [48] (fun i wr => ∃ k : Nat, k ≤ n ∧ i = .int .i64 k ∧ Hid (rowsB S F k = true) ∧ Blk wr W0.heap.size 39 #[.int .i64 (prevS S k), .int .i64 (prevF F k)] ∧ Below w.heap.size w wr) (fun i _ => n - (intOf i).toNat)
  case atStart => exact ⟨0, Nat.zero_le _, rfl, Lib.hid rfl, HBN.out, HB0.out.alloc hws _⟩
  case round =>
    obtain ⟨k, hk, rfl, HK, hbk, hb⟩ := hrel
    have HBK := Lib.hid hbk
    have HB := Lib.hid hb
    have hsz := hb.size
    have hlt3 := hbk.lt
    have cp0 : wr.cell? ⟨W0.heap.size, 0, none⟩ = some (.int .i64 (prevS S k)) := hbk.cell 0
    have cp1 : wr.cell? ⟨W0.heap.size, 1, none⟩ = some (.int .i64 (prevF F k)) := hbk.cell 1
    clear hbk hb
    by_cases hlt : k < n
    · have hlt' : (k : Int) < n := by omega
      obtain ⟨b, off, rfl, hbB, c1, c2⟩ := RdP.at_ (HR.out.below (HB.out.mono hB)) hlt
      have hbb : b < wr.heap.size := World.block_lt_of_cell? _ _ c1
      go_wp2_with fail
      refine (within_one _ _ _ _ (by simp)).mono ?_
      rintro e w5 ⟨rfl, hw5⟩
      have HB5 : Hid (Below wr.heap.size wr w5) := Lib.hid (hw5 ▸ by (repeat (first | exact Below.refl _ _ | exact below_alloc _ _ | refine Below.alloc ?_ (by simp; omega) _ | refine Below.alloc ?_ (by simp) _)))
      have HX5 : Hid (Blk w5 wr.heap.size 39 #[.int .i64 (S k), .int .i64 (F k)]) := Lib.hid (hw5 ▸ (Blk.new _ _ _).alloc _)
      have cx1 : w5.cell? ⟨wr.heap.size, 1, none⟩ = some (.int .i64 (F k)) := HX5.out.cell 1
      have hs5 := HB5.out.size
      clear hw5
      have hbad : rowB S F k = false → r = 240 := fun h => HBAD.out (.inr (rowsB_bad h n hlt))
      have HBR := Lib.hid hbad
      clear hbad
      cases h1 : inB 1048576 (S k)
      · have HV := Lib.hid (HBR.out (by simp [rowB, h1]))
        clear h1
        go_wp2_with fail
        go_ret
        exact ⟨ret_int HV.out.symm, HB.out.trans (HB5.out.mono hsz)⟩
      have H5 := Lib.hid h1
      clear h1
      go_wp2_with fail
      refine (within_one _ _ _ _ (by simp)).mono ?_
      rintro e w6 ⟨rfl, hw6⟩
      have HB6 : Hid (Below wr.heap.size wr w6) := Lib.hid (hw6 ▸ HB5.out.trans (Below.mono (by (repeat (first | exact Below.refl _ _ | exact below_alloc _ _ | refine Below.alloc ?_ (by simp; omega) _ | refine Below.alloc ?_ (by simp) _))) hs5))
      have HX6 : Hid (Blk w6 wr.heap.size 39 #[.int .i64 (S k), .int .i64 (F k)]) := Lib.hid (hw6 ▸ HX5.out.alloc _)
      have HP6 : Hid (Blk w6 W0.heap.size 39 #[.int .i64 (prevS S k), .int .i64 (prevF F k)]) := Lib.hid (HBK.out.below HB6.out hlt3)
      clear hw6 cp0 cp1 cx1
      have cx0 : w6.cell? ⟨wr.heap.size, 0, none⟩ = some (.int .i64 (S k)) := HX6.out.cell 0
      have cx1 : w6.cell? ⟨wr.heap.size, 1, none⟩ = some (.int .i64 (F k)) := HX6.out.cell 1
      have cp0 : w6.cell? ⟨W0.heap.size, 0, none⟩ = some (.int .i64 (prevS S k)) := HP6.out.cell 0
      have cp1 : w6.cell? ⟨W0.heap.size, 1, none⟩ = some (.int .i64 (prevF F k)) := HP6.out.cell 1
      have hfr := HP6.out.frozen 0
      have hfr1 := HP6.out.frozen 1
      cases h1 : inB 1073741824 (F k)
      · have HV := Lib.hid (HBR.out (by simp [rowB, h1]))
        clear h1
        go_wp2_with fail
        go_ret
        exact ⟨ret_int HV.out.symm, HB.out.trans (HB6.out.mono hsz)⟩
      have H6 := Lib.hid h1
      clear h1
      by_cases h3 : S k ≤ prevS S k
      · have HV := Lib.hid (HBR.out (by have : ¬ prevS S k < S k := by omega
                                        simp [rowB, this]))
        go_wp2_with fail
        go_ret
        exact ⟨ret_int HV.out.symm, HB.out.trans (HB6.out.mono hsz)⟩
      have h3' : prevS S k < S k := by omega
      by_cases h4 : F k < prevF F k
      · have HV := Lib.hid (HBR.out (by have : ¬ prevF F k ≤ F k := by omega
                                        simp [rowB, this]))
        go_wp2_with fail
        go_ret
        exact ⟨ret_int HV.out.symm, HB.out.trans (HB6.out.mono hsz)⟩
      have h4' : prevF F k ≤ F k := by omega
      have HRK : Hid (rowB S F k = true) := Lib.hid (by simp [rowB, H5.out, H6.out, h3', h4'])
      go_wp2_with fail
      go_roundw
      case rel =>
        refine ⟨k + 1, by omega, by go_num, Lib.hid (by simp [rowsB, HK.out, HRK.out]), ?_, ?_⟩
        · have h := (HP6.out.set_ 0 (.int .i64 (S k))).set_ 1 (.int .i64 (F k))
          have e1 : prevS S (k + 1) = S k := by simp [prevS]
          have e2 : prevF F (k + 1) = F k := by simp [prevF]
          rw [e1, e2]
          simpa using h
        · exact ((HB.out.trans (HB6.out.mono hsz)).setCell (p := ⟨W0.heap.size, 0, none⟩) hws _).setCell (p := ⟨W0.heap.size, 1, none⟩) hws _
      case measure => simp [intOf]; omega
    · obtain rfl : k = n := by omega
      have HV := Lib.hid (HOK.out HHD.out HK.out)
      go_wp2_with fail
      go_ret
      exact ⟨ret_int HV.out.symm, HB.out⟩
end Go.Proofs.Ytfddlodfmmnanaa
