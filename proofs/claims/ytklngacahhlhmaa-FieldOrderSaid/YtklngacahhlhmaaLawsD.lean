/- Contract of the law FieldOrder: it returns true for every slice of points, every turn and every two integers. -/
import Derived.Test.YtklngacahhlhmaaLawsC
namespace Go.Proofs.Ytklngacahhlhmaa
open Go.RowKit
open Pl (inv eQ Cg sumN prodN lagr IsP Dist)

/-- the points from the k-th on, then the first k -/
def turnF (X : Nat → Int) (n k j : Nat) : Int := if j < n - k then X (j + k) else X (j - (n - k))
def turnA (X Y : Nat → Int) (n k : Nat) : List Value := (List.range ((n - k) * 2)).map fun j => ptc X Y (k * 2 + j)
theorem turn_cells (X Y : Nat → Int) (n k : Nat) (hk : k < n) (j : Nat) (hj : j < n * 2) : (turnA X Y n k ++ rowP X Y k)[j]? = some (ptc (turnF X n k) (turnF Y n k) j) := by
  by_cases h : j < (n - k) * 2
  · rw [List.getElem?_append_left (by simp [turnA]; exact h)]
    simp only [turnA, List.getElem?_map, List.getElem?_range h, Option.map_some]
    have h1 : (k * 2 + j) % 2 = j % 2 := by omega
    have h2 : (k * 2 + j) / 2 = j / 2 + k := by omega
    have h3 : j / 2 < n - k := by omega
    simp only [ptc, turnF, h1, h2, h3, if_true]
  · rw [List.getElem?_append_right (by simp [turnA]; omega)]
    have hl : (turnA X Y n k).length = (n - k) * 2 := by simp [turnA]
    rw [hl, rowP_at _ _ _ _ (by omega)]
    have h1 : (j - (n - k) * 2) % 2 = j % 2 := by omega
    have h2 : (j - (n - k) * 2) / 2 = j / 2 - (n - k) := by omega
    have h3 : ¬ j / 2 < n - k := by omega
    simp only [ptc, turnF, h1, h2, h3, if_false]
theorem turn_dist {X : Nat → Int} {n k : Nat} (hk : k < n) (hd : distB X n = true) : distB (turnF X n k) n = true := by
  rw [distB_iff] at hd ⊢
  intro i j hi hj h
  unfold turnF at h
  have key : ∀ a b, a < n → b < n → a ≠ b → Cg (X a) (X b) → False := fun a b ha hb hab hc => by
    rcases Nat.lt_or_gt_of_ne hab with h1 | h1
    · exact hd b a hb h1 hc.symm
    · exact hd a b ha h1 hc
  split at h <;> split at h <;> exact key _ _ (by omega) (by omega) (by omega) h
theorem turn_val {X Y : Nat → Int} {n k : Nat} (hn : n ≤ 64) (hk : k < n) (hd : distB X n = true) (t : Int) : vAt n (turnF X n k) (turnF Y n k) t = vAt n X Y t := by
  have e : ∀ X' Y', distB X' n = true → vAt n X' Y' t = lagr n X' Y' t % 1073741789 := fun X' Y' h => by unfold vAt; rw [if_neg (by omega), if_pos h]
  rw [e _ _ hd, e _ _ (turn_dist hk hd), Pl.cg_iff]
  have hd' := distB_iff.1 (turn_dist hk hd)
  refine Pl.unique hd' (Pl.lagr_isP n _ _) (Pl.lagr_isP n X Y) (fun i hi => (Pl.lagr_at _ hd' hi).trans ?_) t
  unfold turnF
  split
  · exact (Pl.lagr_at Y (distB_iff.1 hd) (by omega)).symm
  · exact (Pl.lagr_at Y (distB_iff.1 hd) (by omega)).symm
theorem row_one (X Y : Nat → Int) (n : Nat) : ∀ u ∈ rowP X Y n, u.oneCell' = true := by
  intro v hv
  obtain ⟨j, _, rfl⟩ := List.mem_map.1 hv
  unfold ptc
  split <;> rfl
theorem row_read {w : World} {B b off n : Nat} {X Y : Nat → Int} {o : Obj} (h : RdP w B (some ⟨b, off, none⟩) n X Y) (hb : b < w.heap.size) : ∀ j u, (rowP X Y n)[j]? = some u → (w.alloc o).cell? ((⟨b, off, none⟩ : Addr).add j) = some u := by
  intro j v hj
  obtain ⟨hj1, rfl⟩ := List.getElem?_eq_some_iff.1 hj
  simp [rowP] at hj1
  obtain ⟨b', o', e, _, hc⟩ := h (by omega)
  cases e
  rw [add_none, (below_alloc w o).cell hb, hc _ hj1]
  simp [rowP]
/-- one point more -/
def moreF (X : Nat → Int) (n : Nat) (x : Int) (j : Nat) : Int := if j < n then X j else x
theorem more_i64 {X : Nat → Int} {n : Nat} {x : Int} (h : ∀ j, I64 (X j)) (hx : I64 x) (j : Nat) : I64 (moreF X n x j) := by unfold moreF; split; exact h j; exact hx
theorem turn_i64 {X : Nat → Int} {n k : Nat} (h : ∀ j, I64 (X j)) (j : Nat) : I64 (turnF X n k j) := by unfold turnF; split <;> exact h _
theorem vAt_i64 (n : Nat) (X Y : Nat → Int) (t : Int) : I64 (vAt n X Y t) := by
  unfold vAt
  split
  · exact small 0 (by decide)
  · split
    · exact i64_mod _
    · exact small 0 (by decide)
theorem rowP_congr {X Y X' Y' : Nat → Int} {n : Nat} (h : ∀ j, j < n → X j = X' j ∧ Y j = Y' j) : rowP X Y n = rowP X' Y' n := by
  unfold rowP
  refine List.map_congr_left fun j hj => ?_
  have hj := List.mem_range.1 hj
  unfold ptc
  split
  · rw [(h (j / 2) (by omega)).1]
  · rw [(h (j / 2) (by omega)).2]
theorem more_row (X Y : Nat → Int) (n : Nat) (x y : Int) : rowP X Y n ++ [.int .i64 x, .int .i64 y] = rowP (moreF X n x) (moreF Y n y) (n + 1) := by
  rw [← rowP_succ, ← rowP_congr (X := X) (Y := Y) (X' := moreF X n x) (Y' := moreF Y n y) (fun j hj => by simp [moreF, hj])]
  simp [moreF]
theorem more_val {X Y : Nat → Int} {n : Nat} (hn : n ≤ 63) (x : Int) (hd : distB X n = true) (hd' : distB (moreF X n x) (n + 1) = true) (t : Int) : vAt (n + 1) (moreF X n x) (moreF Y n (vAt n X Y x)) t = vAt n X Y t := by
  have e : ∀ t, vAt n X Y t = lagr n X Y t % 1073741789 := fun t => by unfold vAt; rw [if_neg (by omega), if_pos hd]
  rw [e, e]
  unfold vAt
  rw [if_neg (by omega), if_pos hd', Pl.cg_iff]
  have hd1 := distB_iff.1 hd'
  refine Pl.unique hd1 (Pl.lagr_isP _ _ _) ((Pl.lagr_isP n X Y).mono (by omega)) (fun i hi => (Pl.lagr_at _ hd1 hi).trans ?_) t
  unfold moreF
  split
  · exact (Pl.lagr_at Y (distB_iff.1 hd) (by omega)).symm
  · exact Pl.Cg.mod _

attribute [local go_sem] Oper.semAt_some
set_option maxRecDepth 100000 in
set_option maxHeartbeats 4000000 in
theorem order_7 (A : Option Addr) (n c B : Nat) (X Y : Nat → Int) (u : Int) (x t : Int) (w : World) (hm : n ≤ 9223372036854775807) (hnc : n ≤ c) (hc : c ≤ 9223372036854775807) (hB : B ≤ w.heap.size)
    (hr : RdP w B A n X Y) (hx : ∀ j, I64 (X j)) (hy : ∀ j, I64 (Y j)) (hu : 0 ≤ u ∧ u ≤ 255) (hxx : I64 x) (ht : I64 t) :
    Calls Try.prog 7 #[.slice A n c, .int .u8 u, .int .i64 x, .int .i64 t] w fun e w' => e = .returned (.bool true) ∧ Below w.heap.size w w' := by
  have HX := Lib.hid hx
  have HY := Lib.hid hy
  have HT := Lib.hid ht
  have HXX := Lib.hid hxx
  have HR := Lib.hid hr
  have HU := Lib.hid hu
  clear hx hy ht hr hxx hu
  by_cases hn : 63 < n
  · have hn' : (64 : Int) ≤ n := by omega
    go_enter Try.func7, Try.ntmps7
    go_wp2_with fail
    refine (sane_9 _).mono ?_
    rintro e w1 ⟨rfl, hb1⟩
    have B1 := Lib.hid hb1
    clear hb1
    go_wp2_with fail
    all_goals (go_ret; exact ⟨rfl, B1.out⟩)
  have hn1 : (n : Int) ≤ 63 := by omega
  by_cases hd : distB X n = true
  case neg =>
    have HD := Lib.hid (by simpa using hd : distB X n = false)
    clear hd
    go_enter Try.func7, Try.ntmps7
    go_wp2_with fail
    refine (sane_9 _).mono ?_
    rintro e w1 ⟨rfl, hb1⟩
    have B1 := Lib.hid hb1
    clear hb1
    go_wp2_with fail
    refine (diff_24 A n c B X Y _ (by omega) (Rd.below HR.out (B1.out.mono hB)) (fun j _ => HX.out j)).mono ?_
    rintro e w2 ⟨rfl, hm2⟩
    have B2 := Lib.hid (below_quiet B1.out hm2)
    clear hm2
    rw [HD.out]
    go_wp2_with fail
    all_goals (go_ret; exact ⟨rfl, B2.out⟩)
  have HD := Lib.hid hd
  clear hd
  by_cases hn0 : n = 0
  · subst hn0
    go_enter Try.func7, Try.ntmps7
    go_wp2_with fail
    refine (sane_9 _).mono ?_
    rintro e w1 ⟨rfl, hb1⟩
    have B1 := Lib.hid hb1
    clear hb1
    go_wp2_with fail
    refine (diff_24 A 0 c B X Y _ (by omega) (Rd.below HR.out (B1.out.mono hB)) (fun j _ => HX.out j)).mono ?_
    rintro e w2 ⟨rfl, hm2⟩
    have B2 := Lib.hid (below_quiet B1.out hm2)
    clear hm2
    rw [HD.out]
    go_wp2_with fail
    all_goals (go_ret; exact ⟨rfl, B2.out⟩)
  obtain ⟨i0, hi, hz0, hz1, hz2⟩ := info_parts info38
  obtain ⟨k, hk⟩ : ∃ k : Nat, (k : Int) = u % n := ⟨(u % n).toNat, by have := Int.emod_nonneg u (show (n : Int) ≠ 0 by omega); omega⟩
  have hkn : k < n := by have := Int.emod_lt_of_pos u (show (0 : Int) < n by omega); omega
  have HK := Lib.hid hk
  clear hk
  have hu2 : u ≤ 255 := HU.out.2
  have hu1 : 0 ≤ u := HU.out.1
  have hnz : ((n : Int) == 0) = false := by rw [beq_eq_false_iff_ne]; omega
  have HE := Lib.hid (eAt_ok (by omega) HD.out)
  have HE1 := Lib.hid (eAt_ok (by omega) (turn_dist hkn HD.out))
  have HV1 := Lib.hid (turn_val (Y := Y) (by omega) hkn HD.out t)
  go_enter Try.func7, Try.ntmps7
  go_wp2_with fail
  refine (sane_9 _).mono ?_
  rintro e w1 ⟨rfl, hb1⟩
  have B1 := Lib.hid hb1
  clear hb1
  go_wp2_with fail
  refine (diff_24 A n c B X Y _ (by omega) (Rd.below HR.out (B1.out.mono hB)) (fun j _ => HX.out j)).mono ?_
  rintro e w2 ⟨rfl, hm2⟩
  have B2 := Lib.hid (below_quiet B1.out hm2)
  clear hm2
  rw [HD.out]
  go_wp2_with fail
  rename_i hNext
  obtain ⟨b, off, rfl, hbB, hcl⟩ := (Rd.below HR.out (B2.out.mono hB)) (by omega)
  have HCL := Lib.hid hcl
  have hbw : b < w2.heap.size := by have := B2.out.size; omega
  clear hcl
  rw [← HK.out]
  have hkc : ¬ c = k := by omega
  have hkn' : (k : Int) ≤ n := by omega
  have hkc' : (k : Int) ≤ c := by omega
  refine wp_region_tail (fun _ => True) (fun _ => True) 9 9 (by kernel_rfl) ⟨trivial, trivial⟩ (fun hHeld => ?_)
  refine wpAnyT_takeA (i := 1) (v := .slice (some ⟨b, off, none⟩) n c) rfl (by kernel_rfl) (by kernel_rfl) (by kernel_rfl) (by kernel_rfl) (by kernel_rfl) (by decide) (by decide) (fun _ _ _ h => h) (Or.inl ⟨by rfl, ?_⟩) (by assumption) ?_
  · intro w' hSw
    go_simp
  refine wpAnyT_takeA (i := 2) (v := .int .i64 k) rfl (by kernel_rfl) (by kernel_rfl) (by kernel_rfl) (by kernel_rfl) (by kernel_rfl) (by decide) (by decide) (fun _ _ _ h => h) (Or.inl ⟨by rfl, ?_⟩) (by assumption) ?_
  · intro w' hSw
    go_simp
  refine wpAnyT_takeA (i := 3) (v := .slice (some ⟨b, off + k * 2, none⟩) (n - k) (c - k)) rfl (by kernel_rfl) (by kernel_rfl) (by kernel_rfl) (by kernel_rfl) (by kernel_rfl) (by decide) (by decide) (fun _ _ _ h => h) (Or.inl ⟨by rfl, ?_⟩) (by assumption) ?_
  · intro w' hSw
    go_simp
    trace_state
  refine wpAnyT_takeA (i := 5) (v := .slice (some ⟨b, off, none⟩) n c) rfl (by kernel_rfl) (by kernel_rfl) (by kernel_rfl) (by kernel_rfl) (by kernel_rfl) (by decide) (by decide) (fun _ _ _ h => h) (Or.inl ⟨by rfl, ?_⟩) (by assumption) ?_
  · intro w' hSw
    go_simp
  refine wpAnyT_takeA (i := 6) (v := .int .i64 k) rfl (by kernel_rfl) (by kernel_rfl) (by kernel_rfl) (by kernel_rfl) (by kernel_rfl) (by decide) (by decide) (fun _ _ _ h => h) (Or.inl ⟨by rfl, ?_⟩) (by assumption) ?_
  · intro w' hSw
    go_simp
  refine wpAnyT_takeA (i := 7) (v := .slice (some ⟨b, off, none⟩) k c) rfl (by kernel_rfl) (by kernel_rfl) (by kernel_rfl) (by kernel_rfl) (by kernel_rfl) (by decide) (by decide) (fun _ _ _ h => h) (Or.inl ⟨by rfl, ?_⟩) (by assumption) ?_
  · intro w' hSw
    go_simp
    trace_state
  simp only [Act.put, List.setIfInBounds_toArray]
  refine wpAnyT_one (i := 0) (by kernel_rfl) rfl (Ob.head) (fun K hK => ?_)
  go_simp
  refine hK.out _ _ ⟨trivial, trivial⟩ (fun hHeld => ?_)
  clear hK K
  have HS0 : Hid ((w2.alloc (.cells #[] 38)).drew.ownsRow w2.heap.size 38 2 (.slice (some ⟨w2.heap.size, 0, none⟩) 0 0) 0 []) := Lib.hid (World.ownsRow_made w2 #[] 0 (Nat.le_refl _) (by decide) rfl)
  have HB3 : Hid (Below w2.heap.size w2 (w2.alloc (.cells #[] 38)).drew) := Lib.hid (below_alloc _ _).drew
  refine wpAnyT_one (i := 4) (by kernel_rfl) rfl (Ob.head) (fun K hK => ?_)
  rw [if_pos (by kernel_rfl)]
  refine wp_append_own _ _ 30 rfl w2.heap.size 38 i0 _ 2 16 Try.underlying30 hi hz0 hz1 hz2 rfl (by decide) _ 0 [] rfl HS0.out ⟨b, off + k * 2, none⟩ (n - k) _ (turnA X Y n k) rfl (by simp [turnA]) ?hnews ?hone (by unfold maxLen; omega) (by omega) (by simp) ?_
  case hnews =>
    intro j v hj
    obtain ⟨hj1, rfl⟩ := List.getElem?_eq_some_iff.1 hj
    simp [turnA] at hj1
    rw [add_none, HB3.out.cell hbw, Nat.add_assoc, HCL.out _ (by omega)]
    simp [turnA]
  case hone =>
    intro v hv
    obtain ⟨j, _, rfl⟩ := List.mem_map.1 hv
    unfold ptc
    split <;> rfl
  intro v4 w4 hown4 hgrow4 hat4
  have HB4 : Hid (Below w2.heap.size w2 w4) := Lib.hid (HB3.out.grown hgrow4 (by simp) (fun j hj => (HS0.out.lt j hj).1))
  have HS4 := Lib.hid hown4
  clear hown4 hgrow4 hat4
  refine hK.out _ _ ⟨trivial, trivial⟩ (fun hHeld => ?_)
  clear hK K
  refine wpAnyT_one (i := 8) (by kernel_rfl) rfl (Ob.head) (fun K hK => ?_)
  rw [if_pos (by kernel_rfl)]
  refine wp_append_own _ _ 30 rfl w2.heap.size 38 i0 _ 2 16 Try.underlying30 hi hz0 hz1 hz2 rfl (by decide) v4 _ _ rfl HS4.out ⟨b, off, none⟩ k _ (rowP X Y k) rfl (by simp [rowP]) ?hnews ?hone (by unfold maxLen; omega) (by omega) HB4.out.size ?_
  case hnews =>
    intro j v hj
    obtain ⟨hj1, rfl⟩ := List.getElem?_eq_some_iff.1 hj
    simp [rowP] at hj1
    rw [add_none, HB4.out.cell hbw, HCL.out _ (by omega)]
    simp [rowP]
  case hone =>
    intro v hv
    obtain ⟨j, _, rfl⟩ := List.mem_map.1 hv
    unfold ptc
    split <;> rfl
  intro v5 w5 hown5 hgrow5 hat5
  have HB5 : Hid (Below w2.heap.size w2 w5) := Lib.hid (HB4.out.grown hgrow5 HB4.out.size (fun j hj => (HS4.out.lt j hj).1))
  obtain ⟨A5, c5, rfl⟩ := own_form hown5
  have hlen : 0 + (n - k) + k = n := by omega
  rw [hlen] at hown5 ⊢
  have HR5 : Hid (RdP w5 w5.heap.size A5 n (turnF X n k) (turnF Y n k)) := Lib.hid (by
    have := Rd.of_own hown5 (f := ptc (turnF X n k) (turnF Y n k)) (fun j hj => turn_cells X Y n k hkn j hj)
    exact this)
  have hs5 := HB5.out.size
  clear hown5 hgrow5 hat5 HS4 HB3 HS0
  refine hK.out _ _ ⟨trivial, trivial⟩ (fun hHeld => ?_)
  clear hK K
  refine wpAnyT_one (i := 9) (by kernel_rfl) rfl (Ob.last (by kernel_rfl) (by kernel_rfl)) (fun K hK => ?_)
  go_simp
  refine hK.out _ _ trivial (fun _ => ?_)
  clear hK K
  refine wpAnyT_done (by kernel_rfl) ?_
  refine hNext _ _ ?_
  have hB2 : B ≤ w2.heap.size := Nat.le_trans hB B2.out.size
  have HRA : Hid (RdP w5 B (some ⟨b, off, none⟩) n X Y) := Lib.hid (Rd.below HR.out ((B2.out.mono hB).trans (HB5.out.mono hB2)))
  have hB5 := Nat.le_trans hB2 hs5
  go_wp2_with fail
  refine (at_19 _ n c B X Y t _ hm hB5 (fun _ => HRA.out) HX.out HY.out HT.out).mono ?_
  rintro e w6 ⟨rfl, hb6⟩
  rw [HE.out]
  have B6 := Lib.hid hb6
  have hs6 := hb6.size
  clear hb6
  go_wp2_with fail
  refine (at_19 _ n c5 w5.heap.size (turnF X n k) (turnF Y n k) t _ hm hs6 (fun _ => Rd.below HR5.out B6.out) (turn_i64 HX.out) (turn_i64 HY.out) HT.out).mono ?_
  rintro e w7 ⟨rfl, hb7⟩
  rw [HE1.out, HV1.out]
  have B7 := Lib.hid (below_then B6.out hb7 (Nat.le_refl _))
  have hs7 := B7.out.size
  clear hb7
  go_wp2_with fail
  refine (at_19 _ n c B X Y x _ hm (Nat.le_trans hB5 hs7) (fun _ => Rd.below HRA.out (B7.out.mono hB5)) HX.out HY.out HXX.out).mono ?_
  rintro e w8 ⟨rfl, hb8⟩
  rw [HE.out]
  have B8 := Lib.hid (below_then B7.out hb8 (Nat.le_refl _))
  have hs8 := B8.out.size
  clear hb8
  have HRW : Hid (RdP w8 B (some ⟨b, off, none⟩) n X Y) := Lib.hid (Rd.below HRA.out (B8.out.mono hB5))
  have HB8 : Hid (Below w2.heap.size w2 w8) := Lib.hid (HB5.out.trans (B8.out.mono hs5))
  have hs8' := HB8.out.size
  have hbw8 : b < w8.heap.size := by omega
  have HS9 : Hid ((w8.alloc (.cells #[] 38)).ownsRow w8.heap.size 38 2 (.slice (some ⟨w8.heap.size, 0, none⟩) 0 0) 0 []) := Lib.hid (World.ownsRow_made w8 #[] 0 (Nat.le_refl _) (by decide) rfl)
  have hn64 : n + 1 ≤ 64 := by omega
  obtain ⟨y, hy⟩ : ∃ y, y = vAt n X Y x := ⟨_, rfl⟩
  have HYY : Hid (I64 y) := Lib.hid (hy ▸ vAt_i64 n X Y x)
  have HVY := Lib.hid hy
  rw [← hy]
  clear hy
  go_wp2_with (at_builtin; first
    | (refine wpList_append_own_at _ rfl _ _ 30 rfl w8.heap.size 38 i0 _ 2 16 Try.underlying30 hi hz0 hz1 hz2 rfl (by decide) _ 0 [] rfl HS9.out ⟨b, off, none⟩ n _ (rowP X Y n) rfl (by simp [rowP]) (row_read HRW.out hbw8) (row_one X Y n) (by unfold maxLen; omega) (by omega) (by simp) ?_
       intro v9 w9 hown9 hgrow9 _ _
       have HB9 : Hid (Below w8.heap.size w8 w9) := Lib.hid ((below_alloc w8 (.cells #[] 38)).grown hgrow9 (by simp) (fun j hj => (HS9.out.lt j hj).1))
       have HS10 := Lib.hid hown9
       have hs9 := HB9.out.size
       clear hown9 hgrow9)
    | (refine wpList_append_own_at _ rfl _ _ 30 rfl w8.heap.size 38 i0 _ 2 16 Try.underlying30 hi hz0 hz1 hz2 rfl (by decide) _ (0 + n) ([] ++ rowP X Y n) rfl (HS10.out.alloc _) ⟨_, 0, none⟩ 1 1 [.int .i64 x, .int .i64 y] rfl rfl (cell_two_new _ _ _ _) (by simp [Value.oneCell']) (by unfold maxLen; omega) (by omega) (by simp; omega) ?_
       intro v11 w11 hown11 hgrow11 _ _
       have HB11 : Hid (Below w8.heap.size w8 w11) := Lib.hid ((HB9.out.trans (Below.mono (below_alloc _ _) hs9)).grown hgrow11 (by simp; omega) (fun j hj => (HS10.out.lt j hj).1))
       obtain ⟨A11, c11, rfl⟩ := own_form hown11
       have hlen1 : 0 + n + 1 = n + 1 := by omega
       rw [hlen1] at hown11 ⊢
       have HR11 : Hid (RdP w11 w11.heap.size A11 (n + 1) (moreF X n x) (moreF Y n y)) := Lib.hid (Rd.of_own hown11 (fun j hj => by rw [List.nil_append, more_row]; exact rowP_at _ _ _ _ hj))
       have hs11 := HB11.out.size
       clear hown11 hgrow11))
  have hm1 : n + 1 ≤ 9223372036854775807 := by omega
  have HM := Lib.hid (more_i64 (n := n) HX.out HXX.out)
  have HM' := Lib.hid (more_i64 (n := n) HY.out HYY.out)
  by_cases hd2 : distB (moreF X n x) (n + 1) = true
  · have HD2 := Lib.hid hd2
    have HE2 := Lib.hid (eAt_ok hn64 hd2)
    have HV2 := Lib.hid (more_val (Y := Y) (by omega) x HD.out hd2 t)
    rw [← HVY.out] at HV2
    clear hd2
    refine (at_19 _ (n + 1) c11 w11.heap.size (moreF X n x) (moreF Y n y) t _ hm1 (Nat.le_refl _) (fun _ => HR11.out) HM.out HM'.out HT.out).mono ?_
    rintro e w12 ⟨rfl, hb12⟩
    rw [HE2.out, HV2.out]
    have B12 := Lib.hid hb12
    clear hb12
    go_wp2_with fail
    refine (diff_24 _ (n + 1) c11 w11.heap.size (moreF X n x) (moreF Y n y) _ (by omega) (Rd.below HR11.out B12.out) (fun j _ => HM.out j)).mono ?_
    rintro e w13 ⟨rfl, hm13⟩
    have B13 := Lib.hid (below_quiet B12.out hm13)
    clear hm13
    rw [HD2.out]
    go_wp2_with fail
    go_ret
    exact ⟨rfl, B2.out.trans ((HB8.out.trans ((HB11.out.mono hs8').trans (B13.out.mono (Nat.le_trans hs8' hs11)))).mono B2.out.size)⟩
  · have HD2 := Lib.hid (by simpa using hd2 : distB (moreF X n x) (n + 1) = false)
    have HE2 : Hid (eAt (n + 1) (moreF X n x) = 90) := Lib.hid (by unfold eAt; rw [if_neg (by omega), if_neg hd2])
    clear hd2
    refine (at_19 _ (n + 1) c11 w11.heap.size (moreF X n x) (moreF Y n y) t _ hm1 (Nat.le_refl _) (fun _ => HR11.out) HM.out HM'.out HT.out).mono ?_
    rintro e w12 ⟨rfl, hb12⟩
    rw [HE2.out]
    have B12 := Lib.hid hb12
    clear hb12
    go_wp2_with fail
    refine (diff_24 _ (n + 1) c11 w11.heap.size (moreF X n x) (moreF Y n y) _ (by omega) (Rd.below HR11.out B12.out) (fun j _ => HM.out j)).mono ?_
    rintro e w13 ⟨rfl, hm13⟩
    have B13 := Lib.hid (below_quiet B12.out hm13)
    clear hm13
    rw [HD2.out]
    go_wp2_with fail
    go_ret
    exact ⟨rfl, B2.out.trans ((HB8.out.trans ((HB11.out.mono hs8').trans (B13.out.mono (Nat.le_trans hs8' hs11)))).mono B2.out.size)⟩
end Go.Proofs.Ytklngacahhlhmaa
