/- Contract of the reference's Split. No condition. -/
import Derived.Test.YthmebjbaigiehaaSplit
import Derived.Test.YthmebjbaigiehaaRound
namespace Go.Proofs.Ythmebjbaigiehaa
open Go.RowKit

theorem splS_dry {L S : Int} {P : Nat → Int} {k : Nat} (h : ¬ 0 < L) : splS L S P k = 0 := if_neg h
theorem splS_wet {L S : Int} {P : Nat → Int} {k : Nat} (h : 0 < L) : splS L S P k = S * (sm P k + P k) / L - S * sm P k / L := if_pos h

theorem cell_behind {W w8 : World} {H k c b o : Nat} {A : Option Addr} {xs : List Value} {ob : Obj} {v : Value} (hO : W.ownsRow H 24 2 (.slice A k c) k xs) (hg : (W.alloc ob).grownBy w8 (Value.slice A k c).ownBlock) (hb : b < H) (hz : H ≤ W.heap.size)
    (hc : W.cell? ⟨b, o, none⟩ = some v) : w8.cell? ⟨b, o, none⟩ = some v :=
  (((below_alloc W ob).mono hz).grown hg (by simp; omega) (fun q e => (hO.lt q e).1) |>.cell (p := ⟨b, o, none⟩) hb).trans hc
theorem below_behind {W w0 w8 : World} {H k c : Nat} {A : Option Addr} {xs : List Value} {ob : Obj} (hO : W.ownsRow H 24 2 (.slice A k c) k xs) (hg : (W.alloc ob).grownBy w8 (Value.slice A k c).ownBlock) (hb : Below H w0 W) (hz : H ≤ W.heap.size) : Below H w0 w8 :=
  (hb.alloc hz ob).grown hg (by simp; omega) (fun q e => (hO.lt q e).1)

set_option maxRecDepth 100000 in
set_option maxHeartbeats 8000000 in
theorem ref_Split_17 (L S : Int) (A : Option Addr) (n c B : Nat) (P : Nat → Int) (w : World) (hm : n ≤ 9223372036854775807) (hB : B ≤ w.heap.size) (hr : Rd w B A n fun k => .int .i64 (P k)) :
    Calls Try.prog 17 #[.agg #[.int .i64 L, .int .i64 S], .slice A n c] w fun e w' => SplR (splE L S n P) n P (splS L S P) e w' ∧ Below w.heap.size w w' := by
  have HR := Lib.hid hr
  clear hr
  have HNIL : Hid (∀ (E : Int) (w' : World), E ≠ 0 → SplR E n P (splS L S P) (.returned (.tuple #[.slice none 0 0, .int .i64 E])) w') := Lib.hid fun E w' hE =>
    ⟨none, 0, 0, rfl, by rw [if_neg hE], Rd.nil⟩
  go_enter Try.func17, Try.ntmps17
  by_cases hn : 64 < n
  · have hn' : (64 : Int) < n := by omega
    have HE : Hid (splE L S n P = 2) := Lib.hid (by rw [splE, if_pos hn])
    go_wp2_with fail
    refine bodyPost_ret (results_tmp2 rfl _ _ _) rfl ?_
    exact ⟨HE.out.symm ▸ HNIL.out 2 _ (by decide), below_alloc _ _⟩
  have hn' : (n : Int) ≤ 64 := by omega
  go_upto_region 3 with fail
  obtain ⟨w3, hw3⟩ : ∃ zz, zz = w.alloc (.cells #[.int .i64 L, .int .i64 S] 24) := ⟨_, rfl⟩
  have HW3 : Hid (Blk w3 w.heap.size 24 #[.int .i64 L, .int .i64 S]) := Lib.hid (hw3 ▸ Blk.new _ _ _)
  have HB3 : Hid (Below w.heap.size w w3) := Lib.hid (by rw [hw3]; exact below_alloc _ _)
  rw [← hw3]
  clear hw3
  have hs3 := HW3.out.lt
  have cw0 : w3.cell? ⟨w.heap.size, 0, none⟩ = some (.int .i64 L) := HW3.out.cell 0
  have cw1 : w3.cell? ⟨w.heap.size, 1, none⟩ = some (.int .i64 S) := HW3.out.cell 1
  go_wp2_with fail
  refine (Right_23 _ _ _).mono ?_
  rintro e w4 ⟨rfl, hb4⟩
  have HB4 := Lib.hid (HB3.out.trans (hb4.mono (by omega)))
  have HW4 := Lib.hid (HW3.out.below hb4 (by omega))
  clear hb4 HB3 HW3 cw0 cw1
  have hs4 := HW4.out.lt
  have cw0 : w4.cell? ⟨w.heap.size, 0, none⟩ = some (.int .i64 L) := HW4.out.cell 0
  have cw1 : w4.cell? ⟨w.heap.size, 1, none⟩ = some (.int .i64 S) := HW4.out.cell 1
  cases h1 : rt L S
  · have HE : Hid (splE L S n P = 430) := Lib.hid (by rw [splE, if_neg hn, if_pos h1])
    clear h1
    go_wp2_with fail
    refine bodyPost_ret (results_tmp2 rfl _ _ _) rfl ?_
    exact ⟨HE.out.symm ▸ HNIL.out 430 _ (by decide), HB4.out⟩
  have H1 := Lib.hid h1
  obtain ⟨⟨a1, a2⟩, ⟨a3, a4⟩, a5⟩ := rt_iff.1 h1
  clear h1 a5
  have HR4 : Hid (Rd w4 B A n fun k => .int .i64 (P k)) := Lib.hid (HR.out.below (HB4.out.mono hB))
  go_wp2_with fail
  go_loopw [6, 7] (fun s i wr => ∃ k : Nat, k ≤ n ∧ i = .int .i64 k ∧ s = .int .i64 (sm P k) ∧ Hid (limB P k = true) ∧ w4 = wr) (fun _ i _ => n - (intOf i).toNat)
  case atStart => exact ⟨0, Nat.zero_le _, rfl, rfl, Lib.hid rfl, rfl⟩
  case round =>
    obtain ⟨k, hk, rfl, rfl, HK, rfl⟩ := hrel
    by_cases hlt : k < n
    · have hlt' : (k : Int) < n := by omega
      obtain ⟨ab, ao, rfl, hab, hcell⟩ := HR4.out (by omega)
      have ck : w4.cell? ⟨ab, ao + k, none⟩ = some (.int .i64 (P k)) := hcell k hlt
      clear hcell
      have hs0 := sm_nonneg (f := P) k (fun j hj => (limB_at k HK.out j hj).1)
      have hs1 := sm_le (f := P) (c := 1073741824) k (fun j hj => (limB_at k HK.out j hj).2)
      generalize hsk : sm P k = s at *
      have HSK := Lib.hid hsk
      clear hsk
      go_wp2_with fail
      refine (within_0 _ _ _).mono ?_
      rintro e w5 ⟨rfl, rfl⟩
      cases h2 : inB 1073741824 (P k)
      · have HE : Hid (splE L S n P = 1) := Lib.hid (by rw [splE, if_neg hn, if_neg (by rw [H1.out]; simp), if_neg (by rw [limB_bad h2 n hlt]; simp)])
        clear h2
        go_wp2_with fail
        refine bodyPost_ret (results_tmp2 rfl _ _ _) rfl ?_
        exact ⟨HE.out.symm ▸ HNIL.out 1 _ (by decide), HB4.out⟩
      · obtain ⟨hp0, hp1⟩ := inB_iff.1 h2
        have HK1 : Hid (limB P (k + 1) = true) := Lib.hid (by rw [limB, HK.out, h2]; rfl)
        clear h2
        have hw1 : IntKind.i64.wrap (s + P k) = s + P k := IntWalk.i64_in _ ⟨by omega, by omega⟩
        go_wp2_with fail
        go_roundw
        case rel => exact ⟨k + 1, by omega, by go_num, by rw [sm, HSK.out], HK1, by first | rfl | trivial⟩
        case measure => simp [intOf]; omega
    · obtain rfl : k = n := by omega
      have HP : Hid (∀ j, j < k → 0 ≤ P j ∧ P j ≤ 1073741824) := Lib.hid (limB_at k HK.out)
      generalize hsm : sm P k = s
      have HSM := Lib.hid hsm
      clear hsm
      by_cases hsl : s = L
      · have HE : Hid (splE L S k P = 0) := Lib.hid (by rw [splE, if_neg hn, if_neg (by rw [H1.out]; simp), if_pos ⟨HK.out, HSM.out.trans hsl⟩])
        subst hsl
        obtain ⟨i0, hi, hz0, hz1, hz2⟩ := info_parts info24
        go_wp2_with fail
        go_loopw [8, 6, 9] (fun l s2 i wr => ∃ j : Nat, j ≤ k ∧ i = .int .i64 j ∧ s2 = .int .i64 (sm P j) ∧ wr.ownsRow w4.heap.size 24 2 l j (rowP P (splS s S P) j) ∧ Below w4.heap.size w4 wr) (fun _ _ i _ => k - (intOf i).toNat)
        case atStart => exact ⟨0, Nat.zero_le _, rfl, rfl, World.ownsRow_nil _ _ _ _, Below.refl _ _⟩
        case round =>
          obtain ⟨j, hj, rfl, rfl, hO, hb⟩ := hrel
          obtain ⟨A1, c1, hv1⟩ := own_form hO
          subst hv1
          have HO := Lib.hid hO
          have HBX := Lib.hid (HB4.out.trans (hb.mono (by omega)))
          have HB1 := Lib.hid hb
          have HWX := Lib.hid (HW4.out.below hb hs4)
          have HRX : Hid (Rd wr B A k fun k => .int .i64 (P k)) := Lib.hid (HR.out.below (HBX.out.mono hB))
          have hzx : w4.heap.size ≤ wr.heap.size := hb.size
          clear hO hb cw0 cw1
          by_cases hlt2 : j < k
          · have hlt2' : (j : Int) < k := by omega
            obtain ⟨ab, ao, rfl, hab, hcell⟩ := HRX.out (by omega)
            have ck : wr.cell? ⟨ab, ao + j, none⟩ = some (.int .i64 (P j)) := hcell j hlt2
            have cw0 : wr.cell? ⟨w.heap.size, 0, none⟩ = some (.int .i64 s) := HWX.out.cell 0
            have cw1 : wr.cell? ⟨w.heap.size, 1, none⟩ = some (.int .i64 S) := HWX.out.cell 1
            clear hcell
            have hs0 := sm_nonneg (f := P) j (fun i hi => (HP.out i (by omega)).1)
            have hs1 : sm P (j + 1) ≤ s := HSM.out ▸ sm_mono k (by omega) (fun i hi => (HP.out i hi).1)
            obtain ⟨hp0, hp1⟩ := HP.out j hlt2
            have hsj : sm P (j + 1) = sm P j + P j := rfl
            rw [hsj] at hs1
            clear hsj
            have HSP : Hid (splS s S P j = if 0 < s then S * (sm P j + P j) / s - S * sm P j / s else 0) := Lib.hid rfl
            generalize hsk : sm P j = t at *
            have HSK := Lib.hid hsk
            clear hsk
            have hw1 : IntKind.i64.wrap (t + P j) = t + P j := IntWalk.i64_in _ ⟨by omega, by omega⟩
            go_upto_region 20 with fail
            obtain ⟨w5, hw5⟩ : ∃ zz, zz = wr.alloc (.cells #[.int .i64 (P j), .int .i64 0] 24) := ⟨_, rfl⟩
            have HX5 : Hid (Blk w5 wr.heap.size 24 #[.int .i64 (P j), .int .i64 0]) := Lib.hid (hw5 ▸ Blk.new _ _ _)
            have HW5 := Lib.hid (show Blk w5 w.heap.size 24 #[.int .i64 s, .int .i64 S] from hw5 ▸ HWX.out.alloc _)
            have HO5 := Lib.hid (show w5.ownsRow w4.heap.size 24 2 (.slice A1 j c1) j (rowP P (splS s S P) j) from hw5 ▸ HO.out.alloc _)
            have HB5 := Lib.hid (show Below w4.heap.size w4 w5 from hw5 ▸ HB1.out.alloc hzx _)
            have HNB : Hid ((Value.slice A1 j c1).ownBlock ≠ some wr.heap.size) := Lib.hid fun e => by have := (HO.out.lt _ e).2; omega
            have ck5 : w5.cell? ⟨ab, ao + j, none⟩ = some (.int .i64 (P j)) := by rw [hw5, World.cell?_alloc_lt _ _ _ (World.block_lt_of_cell? _ _ ck)]; exact ck
            have hab5 : ab < wr.heap.size := World.block_lt_of_cell? _ _ ck
            rw [← hw5]
            clear hw5 ck cw0 cw1
            have hz5 : wr.heap.size < w5.heap.size := HX5.out.lt
            have cw0 : w5.cell? ⟨w.heap.size, 0, none⟩ = some (.int .i64 s) := HW5.out.cell 0
            have cw1 : w5.cell? ⟨w.heap.size, 1, none⟩ = some (.int .i64 S) := HW5.out.cell 1
            have cx0 : w5.cell? ⟨wr.heap.size, 0, none⟩ = some (.int .i64 (P j)) := HX5.out.cell 0
            have cx1 : w5.cell? ⟨wr.heap.size, 1, none⟩ = some (.int .i64 0) := HX5.out.cell 1
            have fx1 := HX5.out.frozen 1
            by_cases hpos : 0 < s
            · rw [if_pos hpos] at HSP
              have h10 : 0 ≤ S * (t + P j) := Int.mul_nonneg a3 (by omega)
              have h11 : S * (t + P j) ≤ 1073741824 * 1073741824 := Int.mul_le_mul a4 (by omega) (by omega) (by omega)
              have h20 : 0 ≤ S * t := Int.mul_nonneg a3 (by omega)
              have h21 : S * t ≤ 1073741824 * 1073741824 := Int.mul_le_mul a4 (by omega) (by omega) (by omega)
              have g1 := share_range (S := S) (k := t + P j) (L := s) hpos a3 (by omega) hs1
              have g2 := share_range (S := S) (k := t) (L := s) hpos a3 (by omega) (by omega)
              have HS1 : Hid (∀ W, ∃ q, q = S * (t + P j) / s ∧ Calls Try.prog 31 #[.int .i64 S, .int .i64 (t + P j), .int .i64 s] W fun e w' => e = .returned (.int .i64 q) ∧ W = w') := Lib.hid fun W => ⟨_, rfl, share_31 S (t + P j) s W h10 (by omega) hpos (by omega)⟩
              have HS2 : Hid (∀ W, ∃ q, q = S * t / s ∧ Calls Try.prog 31 #[.int .i64 S, .int .i64 t, .int .i64 s] W fun e w' => e = .returned (.int .i64 q) ∧ W = w') := Lib.hid fun W => ⟨_, rfl, share_31 S t s W h20 (by omega) hpos (by omega)⟩
              obtain ⟨q1, hq1⟩ : ∃ q1, q1 = S * (t + P j) / s := ⟨_, rfl⟩
              obtain ⟨q2, hq2⟩ : ∃ q2, q2 = S * t / s := ⟨_, rfl⟩
              have HC1 : Hid (∀ W, Calls Try.prog 31 #[.int .i64 S, .int .i64 (t + P j), .int .i64 s] W fun e w' => e = .returned (.int .i64 q1) ∧ W = w') := Lib.hid fun W => hq1 ▸ share_31 S (t + P j) s W h10 (by omega) hpos (by omega)
              have HC2 : Hid (∀ W, Calls Try.prog 31 #[.int .i64 S, .int .i64 t, .int .i64 s] W fun e w' => e = .returned (.int .i64 q2) ∧ W = w') := Lib.hid fun W => hq2 ▸ share_31 S t s W h20 (by omega) hpos (by omega)
              rw [← hq1] at g1 HSP
              rw [← hq2] at g2 HSP
              have HSPJ := HSP
              clear HSP HS1 HS2 hq1 hq2 h10 h11 h20 h21
              obtain ⟨g1a, g1b⟩ := g1
              obtain ⟨g2a, g2b⟩ := g2
              have hw2 : IntKind.i64.wrap (q1 - q2) = q1 - q2 := IntWalk.i64_in _ ⟨by omega, by omega⟩
              go_upto_region 21 with fail
              refine wp_region_tail (fun _ => True) (fun w' => w'.cell? ⟨w.heap.size, 0, none⟩ = some (.int .i64 s) ∧ w'.cell? ⟨w.heap.size, 1, none⟩ = some (.int .i64 S) ∧ w'.cell? ⟨ab, ao + j, none⟩ = some (.int .i64 (P j))) 19 19 (by kernel_rfl) ⟨trivial, cw0, cw1, ck5⟩ (fun hHeld => ?_)
              refine wpAnyT_takeB (i := 0) (v := .pointer (some ⟨w.heap.size, 1, none⟩)) rfl (by kernel_rfl) (by kernel_rfl) (by kernel_rfl) (by kernel_rfl) (by kernel_rfl) (by decide) (by decide) (fun _ _ _ h => h) (Or.inl ⟨by rfl, ?_⟩) (by assumption) ?_
              · intro w' hSw
                go_simp
              refine wpAnyT_takeB (i := 1) (v := .int .i64 S) rfl (by kernel_rfl) (by kernel_rfl) (by kernel_rfl) (by kernel_rfl) (by kernel_rfl) (by decide) (by decide) (fun _ _ _ h => h) (Or.inl ⟨by rfl, ?_⟩) (by assumption) ?_
              · intro w' hSw
                go_simp
              refine wpAnyT_takeB (i := 2) (v := .int .i64 t) rfl (by kernel_rfl) (by kernel_rfl) (by kernel_rfl) (by kernel_rfl) (by kernel_rfl) (by decide) (by decide) (fun _ _ _ h => h) (Or.inl ⟨by rfl, ?_⟩) (by assumption) ?_
              · intro w' hSw
                go_simp
              refine wpAnyT_takeB (i := 3) (v := .slice (some ⟨ab, ao, none⟩) k c) rfl (by kernel_rfl) (by kernel_rfl) (by kernel_rfl) (by kernel_rfl) (by kernel_rfl) (by decide) (by decide) (fun _ _ _ h => h) (Or.inl ⟨by rfl, ?_⟩) (by assumption) ?_
              · intro w' hSw
                go_simp
              refine wpAnyT_takeB (i := 4) (v := .int .i64 j) rfl (by kernel_rfl) (by kernel_rfl) (by kernel_rfl) (by kernel_rfl) (by kernel_rfl) (by decide) (by decide) (fun _ _ _ h => h) (Or.inl ⟨by rfl, ?_⟩) (by assumption) ?_
              · intro w' hSw
                go_simp
              refine wpAnyT_takeB (i := 5) (v := .pointer (some ⟨ab, ao + j, none⟩)) rfl (by kernel_rfl) (by kernel_rfl) (by kernel_rfl) (by kernel_rfl) (by kernel_rfl) (by decide) (by decide) (fun _ _ _ h => h) (Or.inl ⟨by rfl, ?_⟩) (by assumption) ?_
              · intro w' hSw
                go_simp
              refine wpAnyT_takeB (i := 6) (v := .int .i64 (P j)) rfl (by kernel_rfl) (by kernel_rfl) (by kernel_rfl) (by kernel_rfl) (by kernel_rfl) (by decide) (by decide) (fun _ _ _ h => h) (Or.inl ⟨by rfl, ?_⟩) (by assumption) ?_
              · intro w' hSw
                go_simp
              refine wpAnyT_takeB (i := 7) (v := .int .i64 (t + P j)) rfl (by kernel_rfl) (by kernel_rfl) (by kernel_rfl) (by kernel_rfl) (by kernel_rfl) (by decide) (by decide) (fun _ _ _ h => h) (Or.inl ⟨by rfl, ?_⟩) (by assumption) ?_
              · intro w' hSw
                go_simp
              refine wpAnyT_takeB (i := 8) (v := .pointer (some ⟨w.heap.size, 0, none⟩)) rfl (by kernel_rfl) (by kernel_rfl) (by kernel_rfl) (by kernel_rfl) (by kernel_rfl) (by decide) (by decide) (fun _ _ _ h => h) (Or.inl ⟨by rfl, ?_⟩) (by assumption) ?_
              · intro w' hSw
                go_simp
              refine wpAnyT_takeB (i := 9) (v := .int .i64 s) rfl (by kernel_rfl) (by kernel_rfl) (by kernel_rfl) (by kernel_rfl) (by kernel_rfl) (by decide) (by decide) (fun _ _ _ h => h) (Or.inl ⟨by rfl, ?_⟩) (by assumption) ?_
              · intro w' hSw
                go_simp
              refine wpAnyT_takeB (i := 11) (v := .pointer (some ⟨w.heap.size, 1, none⟩)) rfl (by kernel_rfl) (by kernel_rfl) (by kernel_rfl) (by kernel_rfl) (by kernel_rfl) (by decide) (by decide) (fun _ _ _ h => h) (Or.inl ⟨by rfl, ?_⟩) (by assumption) ?_
              · intro w' hSw
                go_simp
              refine wpAnyT_takeB (i := 12) (v := .int .i64 S) rfl (by kernel_rfl) (by kernel_rfl) (by kernel_rfl) (by kernel_rfl) (by kernel_rfl) (by decide) (by decide) (fun _ _ _ h => h) (Or.inl ⟨by rfl, ?_⟩) (by assumption) ?_
              · intro w' hSw
                go_simp
              refine wpAnyT_takeB (i := 13) (v := .int .i64 t) rfl (by kernel_rfl) (by kernel_rfl) (by kernel_rfl) (by kernel_rfl) (by kernel_rfl) (by decide) (by decide) (fun _ _ _ h => h) (Or.inl ⟨by rfl, ?_⟩) (by assumption) ?_
              · intro w' hSw
                go_simp
              refine wpAnyT_takeB (i := 14) (v := .pointer (some ⟨w.heap.size, 0, none⟩)) rfl (by kernel_rfl) (by kernel_rfl) (by kernel_rfl) (by kernel_rfl) (by kernel_rfl) (by decide) (by decide) (fun _ _ _ h => h) (Or.inl ⟨by rfl, ?_⟩) (by assumption) ?_
              · intro w' hSw
                go_simp
              refine wpAnyT_takeB (i := 15) (v := .int .i64 s) rfl (by kernel_rfl) (by kernel_rfl) (by kernel_rfl) (by kernel_rfl) (by kernel_rfl) (by decide) (by decide) (fun _ _ _ h => h) (Or.inl ⟨by rfl, ?_⟩) (by assumption) ?_
              · intro w' hSw
                go_simp
              simp only [Act.put, List.setIfInBounds_toArray]
              refine wpAnyT_one (i := 10) (by kernel_rfl) rfl Ob.head (fun K hK => ?_)
              go_simp
              refine (HC1.out _).mono ?_
              rintro e w' ⟨rfl, rfl⟩
              refine hK.out _ _ hHeld (fun hHeld => ?_)
              clear hK K
              refine wpAnyT_one (i := 16) (by kernel_rfl) rfl Ob.head (fun K hK => ?_)
              go_simp
              refine (HC2.out _).mono ?_
              rintro e w' ⟨rfl, rfl⟩
              refine hK.out _ _ hHeld (fun hHeld => ?_)
              clear hK K
              refine wpAnyT_one (i := 17) (by kernel_rfl) rfl Ob.head (fun K hK => ?_)
              go_simp
              refine hK.out _ _ hHeld (fun hHeld => ?_)
              clear hK K
              refine wpAnyT_one (i := 18) (by kernel_rfl) rfl Ob.head (fun K hK => ?_)
              go_simp
              refine hK.out _ _ hHeld (fun hHeld => ?_)
              clear hK K
              refine wpAnyT_one (i := 19) (by kernel_rfl) rfl (Ob.last (by kernel_rfl) (by kernel_rfl)) (fun K hK => ?_)
              go_simp
              refine hK.out _ _ trivial (fun _ => ?_)
              clear hK K
              refine wpAnyT_done (by kernel_rfl) ?_
              obtain ⟨w7, hw7⟩ : ∃ zz, zz = (w5.setCell ⟨wr.heap.size, 1, none⟩ (.int .i64 (q1 - q2))).drew := ⟨_, rfl⟩
              have HX7 : Hid (Blk w7 wr.heap.size 24 #[.int .i64 (P j), .int .i64 (q1 - q2)]) := Lib.hid (by rw [hw7]; exact (HX5.out.set_ 1 _).drewN 1)
              have hg7 : w5.grownBy (w5.setCell ⟨wr.heap.size, 1, none⟩ (.int .i64 (q1 - q2))) (some wr.heap.size) := grown_set (grown_refl _ _) _ _
              have HO7 : Hid (w7.ownsRow w4.heap.size 24 2 (.slice A1 j c1) j (rowP P (splS s S P) j)) := Lib.hid (by rw [hw7]; exact (HO5.out.kept hg7 (.inr HNB.out)).drew)
              have HB7 : Hid (Below w4.heap.size w4 w7) := Lib.hid (by rw [hw7]; exact (HB5.out.setCell (p := ⟨wr.heap.size, 1, none⟩) hzx _).drew)
              have ck7 : w7.cell? ⟨ab, ao + j, none⟩ = some (.int .i64 (P j)) := by rw [hw7]; exact (World.cell?_setCell_other _ _ _ _ (fun e => by injection e with e1 _; omega)).trans ck5
              rw [← hw7]
              clear hg7 hw7 hHeld ck5 cw0 cw1 cx0 cx1 fx1 HX5 HO5 HB5
              have x0 : w7.cell? ⟨wr.heap.size, 0, none⟩ = some (.int .i64 (P j)) := HX7.out.cell 0
              have x1 : w7.cell? ⟨wr.heap.size, 1, none⟩ = some (.int .i64 (q1 - q2)) := HX7.out.cell 1
              have hz7 : w4.heap.size ≤ w7.heap.size := HB7.out.size
              obtain ⟨v, hv⟩ : ∃ v, v = q1 - q2 := ⟨_, rfl⟩
              rw [← hv] at x1 HSPJ ⊢
              clear hv HX7
              go_wp2_with (at_builtin; refine wpList_append_own_at _ rfl _ _ 22 rfl w4.heap.size 24 i0 (.agg #[.int .i64 0, .int .i64 0]) 2 16 Try.underlying22 hi hz0 hz1 hz2 rfl (by decide) (.slice A1 j c1) j (rowP P (splS s S P) j) rfl (HO7.out.alloc _) ⟨_, 0, none⟩ 1 1 [.int .i64 (P j), .int .i64 v] rfl rfl (cell_two_new _ _ _ _) (one_two _ _) (by unfold maxLen; omega) (by omega) (by simp; omega) ?_; intro vv w8 hown8 hgrow8 _ _; obtain ⟨A3, c3, hvv⟩ := own_form hown8; subst hvv; have ck8 := cell_behind HO7.out hgrow8 (show ab < w4.heap.size by omega) hz7 ck7)
              go_roundw
              case rel => exact ⟨j + 1, by omega, by go_num, by rw [sm, HSK.out], by rw [← rowP_succ, HSPJ.out]; exact hown8, below_behind HO7.out hgrow8 HB7.out hz7⟩
              case measure => simp [intOf]; omega
            · rw [if_neg hpos] at HSP
              have HSPJ := HSP
              have HO7 := HO5
              have HB7 := HB5
              have ck7 := ck5
              have hz7 : w4.heap.size ≤ w5.heap.size := HB7.out.size
              clear HSP HO5 HB5 ck5 fx1
              obtain ⟨v, hv⟩ : ∃ v : Int, v = 0 := ⟨_, rfl⟩
              rw [← hv] at cx1 HSPJ
              clear hv HX5
              go_wp2_with (at_builtin; refine wpList_append_own_at _ rfl _ _ 22 rfl w4.heap.size 24 i0 (.agg #[.int .i64 0, .int .i64 0]) 2 16 Try.underlying22 hi hz0 hz1 hz2 rfl (by decide) (.slice A1 j c1) j (rowP P (splS s S P) j) rfl (HO7.out.alloc _) ⟨_, 0, none⟩ 1 1 [.int .i64 (P j), .int .i64 v] rfl rfl (cell_two_new _ _ _ _) (one_two _ _) (by unfold maxLen; omega) (by omega) (by simp; omega) ?_; intro vv w8 hown8 hgrow8 _ _; obtain ⟨A3, c3, hvv⟩ := own_form hown8; subst hvv; have ck8 := cell_behind HO7.out hgrow8 (show ab < w4.heap.size by omega) hz7 ck7)
              go_roundw
              case rel => exact ⟨j + 1, by omega, by go_num, by rw [sm, HSK.out], by rw [← rowP_succ, HSPJ.out]; exact hown8, below_behind HO7.out hgrow8 HB7.out hz7⟩
              case measure => simp [intOf]; omega
          · obtain rfl : j = k := by omega
            go_wp2_with fail
            refine bodyPost_ret (results_tmp2 rfl _ _ _) rfl ?_
            exact ⟨HE.out.symm ▸ ⟨A1, j, c1, rfl, by simp, Rd.of_own HO.out (fun i hi => rowP_at P (splS s S P) j i hi)⟩, HBX.out⟩
      · have HE : Hid (splE L S k P = 1) := Lib.hid (by rw [splE, if_neg hn, if_neg (by rw [H1.out]; simp), if_neg (by rw [HSM.out]; exact fun h => hsl h.2)])
        have hne : (s == L) = false := by simpa using hsl
        go_wp2_with fail
        refine bodyPost_ret (results_tmp2 rfl _ _ _) rfl ?_
        exact ⟨HE.out.symm ▸ HNIL.out 1 _ (by decide), HB4.out⟩
end Go.Proofs.Ythmebjbaigiehaa
