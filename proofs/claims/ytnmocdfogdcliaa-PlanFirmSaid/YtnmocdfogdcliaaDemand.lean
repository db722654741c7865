/- Contract of demanding. -/
import Derived.Test.YtnmocdfogdcliaaFails
import Derived.StillTailTactics
namespace Go.Proofs.Ytnmocdfogdcliaa
open Go.RowKit

set_option maxRecDepth 100000 in
set_option maxHeartbeats 8000000 in
theorem demanding_31 {PA : Option Addr} {n pc : Nat} {cp st fl : Int} {lo hi dm ou sp : Nat → Int} (B N sc : Nat) (SA : Option Addr) (sh : Nat → Int) (w : World) (hN : N ≤ 1048576) (hn : n ≤ 64) (hsh : ∀ j, j < n → 0 ≤ sh j ∧ sh j ≤ 1048576) (hB : B ≤ w.heap.size) (hr : Rd w B PA (n * 5) (psc lo hi dm ou sp)) (hf : Rd w B SA n (fun j => .int .i64 (sh j))) :
    Calls Try.prog 31 #[(.agg #[.int .i64 cp, .int .i64 st, .int .i64 fl, .slice PA n pc]), .slice SA n sc, .int .i64 N] w fun e w' => (∃ A c, e = .returned (.agg #[.int .i64 cp, .int .i64 st, .int .i64 fl, .slice A n c]) ∧ Rd w' w'.heap.size A (n * 5) (psc lo hi (mul N sh) ou sp)) ∧ Below w.heap.size w w' := by
  have HRD := Lib.hid hr
  have HF := Lib.hid hf
  have HSH := Lib.hid hsh
  clear hr hf hsh
  go_enter Try.func31, Try.ntmps31
  go_upto_region 1 with fail
  obtain ⟨w1, hw1⟩ : ∃ zz, zz = (w.alloc (.cells #[.int .i64 cp, .int .i64 st, .int .i64 fl, .slice PA n pc] 26)).alloc (.cells #[.int .i64 0, .int .i64 0, .int .i64 0, .slice none 0 0] 26) := ⟨_, rfl⟩
  have HD1 : Hid (Blk w1 w.heap.size 26 #[.int .i64 cp, .int .i64 st, .int .i64 fl, .slice PA n pc]) := Lib.hid (hw1 ▸ (Blk.new _ _ _).alloc _)
  have HQ1 : Hid (Blk w1 (w.heap.size + 1) 26 #[.int .i64 0, .int .i64 0, .int .i64 0, .slice none 0 0]) := Lib.hid (by have h := Blk.new (w.alloc (.cells #[.int .i64 cp, .int .i64 st, .int .i64 fl, .slice PA n pc] 26)) 26 #[.int .i64 0, .int .i64 0, .int .i64 0, .slice none 0 0]; rw [World.size_alloc] at h; rw [hw1]; exact h)
  have HB1 : Hid (Below w.heap.size w w1) := Lib.hid (hw1 ▸ (below_alloc _ _).alloc (by simp) _)
  rw [← hw1]
  clear hw1
  have hdlt := HD1.out.lt
  have hqlt := HQ1.out.lt
  have c3 : w1.cell? ⟨w.heap.size, 2 + 1, none⟩ = some (.slice PA n pc) := HD1.out.cell 3
  have c3' : w1.cell? ⟨w.heap.size, 3, none⟩ = some (.slice PA n pc) := HD1.out.cell 3
  obtain ⟨i50, hj, hj0, hj1, hj2⟩ := info_three info50
  have HNEW := Lib.hid (rowX_new ((HRD.out.below (HB1.out.mono hB)).alloc (w := w1) (by have := HB1.out.size; omega) (.cells #[] 50)))
  have HNON := Lib.hid (rowX_none HRD.out)
  have hnl := rowX_len (lo := lo) (hi := hi) (dm := dm) (ou := ou) (sp := sp) (n := n)
  have HONE := Lib.hid (rowX_one (lo := lo) (hi := hi) (dm := dm) (ou := ou) (sp := sp) (n := n))
  have HRX : Hid (∀ W A c, W.ownsRow w1.heap.size 50 5 (.slice A n c) n (rowX lo hi dm ou sp n) → RowP W w1.heap.size A n lo hi dm ou sp) := Lib.hid fun W A c h => RowP.of_own h
  generalize rowX lo hi dm ou sp n = news at HNEW hnl HONE HRX
  go_upto_region 2 with (at_builtin; refine wpList_append_any rfl _ _ 24 rfl w1.heap.size 50 i50 (.agg #[.int .i64 0, .int .i64 0, .int .i64 0, .int .i64 0, .int .i64 0]) 5 40 Try.underlying24 hj hj0 hj1 hj2 rfl (by decide) (.slice (some ⟨w1.heap.size, 0, none⟩) 0 0) 0 [] rfl (own_empty (Blk.new _ _ _) (Nat.le_refl _)) PA n pc news rfl hnl HNON.out HNEW.out HONE.out (by unfold maxLen; omega) (by omega) (by simp) ?_; intro va wa hown1 hgrow1 _; rw [Nat.zero_add, List.nil_append] at hown1; obtain ⟨Aa, cva, hva⟩ := own_form hown1; subst hva; have HDA := Lib.hid (blk_of_grown (HD1.out.alloc _) hgrow1 (fun e => (show w.heap.size ≠ w1.heap.size by omega) (Option.some.inj e).symm)); have HBA : Hid (Below w1.heap.size w1 wa) := Lib.hid ((below_alloc w1 (.cells #[] 50)).grown hgrow1 (by simp) (fun q e => Nat.le_of_eq (Option.some.inj e))); have ca3 : wa.cell? ⟨w.heap.size, 2 + 1, none⟩ = some (.slice PA n pc) := HDA.out.cell 3; have ca3' : wa.cell? ⟨w.heap.size, 3, none⟩ = some (.slice PA n pc) := HDA.out.cell 3; have fa3 := HDA.out.frozen 3; have HRA := Lib.hid (HRX.out _ _ _ hown1); clear hown1 hgrow1)
  obtain ⟨w2, hw2⟩ : ∃ zz, zz = wa.setCell ⟨w.heap.size, 2 + 1, none⟩ (.slice Aa n cva) := ⟨_, rfl⟩
  have HD2 : Hid (Blk w2 w.heap.size 26 #[.int .i64 cp, .int .i64 st, .int .i64 fl, .slice Aa n cva]) := Lib.hid (hw2 ▸ HDA.out.set_ 3 _)
  have HQ2 : Hid (Blk w2 (w.heap.size + 1) 26 #[.int .i64 0, .int .i64 0, .int .i64 0, .slice none 0 0]) := Lib.hid (hw2 ▸ (HQ1.out.below HBA.out hqlt).far (p := ⟨w.heap.size, 2 + 1, none⟩) (by simp) _)
  have HB2 : Hid (Below w.heap.size w w2) := Lib.hid (hw2 ▸ (HB1.out.trans (HBA.out.mono HB1.out.size)).setCell (by simp) _)
  have HR2 : Hid (RowP w2 w1.heap.size Aa n lo hi dm ou sp) := Lib.hid (hw2 ▸ HRA.out.far (by simpa using hdlt) _)
  have hz12 : w1.heap.size ≤ w2.heap.size := by have := HBA.out.size; rw [hw2]; simpa [World.setCell] using this
  rw [← hw2]
  clear hw2 ca3 ca3' fa3 HDA HBA HRA HD1 HB1 HQ1 c3 c3' HNEW HNON HONE HRX hnl hj hj0 hj1 hj2
  clear wa
  generalize w1.heap.size = base at *
  have d3 : w2.cell? ⟨w.heap.size, 2 + 1, none⟩ = some (.slice Aa n cva) := HD2.out.cell 3
  have d3' : w2.cell? ⟨w.heap.size, 3, none⟩ = some (.slice Aa n cva) := HD2.out.cell 3
  go_wp2_with fail
  clear d3 d3'
  go_loopw [7, 16] (fun _ i wr => ∃ k : Nat, k ≤ n ∧ i = .int .i64 k ∧ Hid (Blk wr w.heap.size 26 #[.int .i64 cp, .int .i64 st, .int .i64 fl, .slice Aa n cva]) ∧ Hid (Blk wr (w.heap.size + 1) 26 #[.int .i64 0, .int .i64 0, .int .i64 0, .slice none 0 0]) ∧ Hid (RowP wr base Aa n lo hi (dmx N sh dm k) ou sp) ∧ Below w.heap.size w wr) (fun _ i _ => n - (intOf i).toNat)
  case atStart => exact ⟨0, Nat.zero_le _, rfl, HD2, HQ2, by rw [dmx_zero]; exact HR2, HB2.out⟩
  case round =>
    obtain ⟨k, hk, rfl, HDr, HQr, HRr, hb⟩ := hrel
    have HBr := Lib.hid hb
    clear hb
    by_cases hlt : k < n
    · have hlt' : (k : Int) < n := by omega
      rcases HRr.out with h0 | ⟨g, cur, e, hbase, hg, hsz, hcur⟩
      · omega
      subst e
      obtain ⟨b, o, e, _, hcs⟩ := HF.out.below (HBr.out.mono hB) (by omega)
      subst e
      have p0 : wr.cell? ⟨b, o + k, none⟩ = some (.int .i64 (sh k)) := hcs k hlt
      have hw1 : IntKind.i64.wrap ((N : Int) * sh k) = mul N sh k := by
        have h1 := HSH.out k hlt
        have h2 : (N : Int) * sh k ≤ 1048576 * 1048576 := Int.mul_le_mul (by omega) h1.2 h1.1 (by omega)
        have h3 : 0 ≤ (N : Int) * sh k := Int.mul_nonneg (by omega) h1.1
        exact IntWalk.i64_in _ ⟨by omega, by omega⟩
      have HRN := Lib.hid (RowP.set_ (W := wr.drew) (sh := sh) (N := N) hbase (hg.drewN 1) hsz hcur hlt)
      have hd3 : wr.cell? ⟨w.heap.size, 2 + 1, none⟩ = some (.slice (some ⟨g, 0, none⟩) n cva) := HDr.out.cell 3
      have hd3' : wr.cell? ⟨w.heap.size, 3, none⟩ = some (.slice (some ⟨g, 0, none⟩) n cva) := HDr.out.cell 3
      have q0 : wr.cell? ⟨g, k * 5 + 2, none⟩ = some _ := (hg.cell _).trans (hcur (k * 5 + 2) (by omega))
      have q1 := hg.frozen (k * 5 + 2)
      have hgd : w.heap.size ≠ g := by omega
      have hgq : w.heap.size + 1 ≠ g := by omega
      have HDN := Lib.hid ((HDr.out.drewN 1).far (p := ⟨g, k * 5 + 2, none⟩) hgd (.int .i64 (mul N sh k)))
      have HQN := Lib.hid ((HQr.out.drewN 1).far (p := ⟨g, k * 5 + 2, none⟩) hgq (.int .i64 (mul N sh k)))
      have HBN := Lib.hid (HBr.out.drew.setCell (p := ⟨g, k * 5 + 2, none⟩) (show w.heap.size ≤ g by omega) (.int .i64 (mul N sh k)))
      clear hcs hcur hg HDr HRr HQr
      generalize mul N sh k = mk at *
      generalize sh k = zk at *
      go_upto_region 5 with fail
      go_still_tail 11, (by kernel_rfl)
      change wpList _ _ _ _ _ wr.drew
      have q0' : wr.drew.cell? ⟨g, k * 5 + 2, none⟩ = some _ := q0
      have q1' : wr.drew.frozen? ⟨g, k * 5 + 2, none⟩ = false := q1
      go_wp2_with fail
      go_roundw
      case rel => exact ⟨k + 1, by omega, by go_num, HDN, HQN, HRN, HBN.out⟩
      case measure => simp [intOf]; omega
    · have hkn : n = k := by omega
      subst hkn
      have d0 : wr.cell? ⟨w.heap.size, 0, none⟩ = some (.int .i64 cp) := HDr.out.cell 0
      have d1 : wr.cell? ⟨w.heap.size, 1, none⟩ = some (.int .i64 st) := HDr.out.cell 1
      have d2 : wr.cell? ⟨w.heap.size, 2, none⟩ = some (.int .i64 fl) := HDr.out.cell 2
      have d3 : wr.cell? ⟨w.heap.size, 3, none⟩ = some (.slice Aa n cva) := HDr.out.cell 3
      have e0 : wr.cell? ⟨w.heap.size + 1, 0, none⟩ = some (.int .i64 0) := HQr.out.cell 0
      have e1 : wr.cell? ⟨w.heap.size + 1, 1, none⟩ = some (.int .i64 0) := HQr.out.cell 1
      have e2 : wr.cell? ⟨w.heap.size + 1, 2, none⟩ = some (.int .i64 0) := HQr.out.cell 2
      have e3 : wr.cell? ⟨w.heap.size + 1, 3, none⟩ = some (.slice none 0 0) := HQr.out.cell 3
      have f0 := HQr.out.frozen 0
      have f1 := HQr.out.frozen 1
      have f2 := HQr.out.frozen 2
      have f3 := HQr.out.frozen 3
      go_wp2_with fail
      refine bodyPost_ret (results_cell_row rfl _ _ _ 26 _ (0, 0) _ rfl ((((HQr.out.set_ 0 (.int .i64 cp)).set_ 1 (.int .i64 st)).set_ 2 (.int .i64 fl)).set_ 3 (.slice Aa n cva)) Try.underlying26 rfl (by kernel_rfl)) rfl ?_
      have hqb : w.heap.size + 1 < base := by omega
      exact ⟨⟨Aa, cva, rfl, ((((HRr.out.far (p := ⟨w.heap.size + 1, 0, none⟩) hqb _).far (p := ⟨w.heap.size + 1, 1, none⟩) hqb _).far (p := ⟨w.heap.size + 1, 2, none⟩) hqb _).far (p := ⟨w.heap.size + 1, 3, none⟩) hqb _).done⟩,
        (((HBr.out.setCell (p := ⟨w.heap.size + 1, 0, none⟩) (Nat.le_succ _) _).setCell (p := ⟨w.heap.size + 1, 1, none⟩) (Nat.le_succ _) _).setCell (p := ⟨w.heap.size + 1, 2, none⟩) (Nat.le_succ _) _).setCell (p := ⟨w.heap.size + 1, 3, none⟩) (Nat.le_succ _) _⟩
end Go.Proofs.Ytnmocdfogdcliaa
