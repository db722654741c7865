/- Contract of the law FieldSums: it returns true for every two polynomials and every two integers. -/
import Derived.Test.YtklngacahhlhmaaLawsA
import Derived.Maps.AppendAt
namespace Go.Proofs.Ytklngacahhlhmaa
open Go.RowKit
open Pl (inv eQ Cg sumN prodN lagr)

theorem own_form {w : World} {base : Nat} {e : TypeId} {size n : Nat} {v : Value} {xs : List Value} (h : w.ownsRow base e size v n xs) : ∃ A c, v = .slice A n c := by
  by_cases hn : 0 < n
  · obtain ⟨g, cap, hv, _⟩ := h.form hn
    exact ⟨_, _, hv⟩
  · have : n = 0 := by omega
    subst this
    rcases h.2 with ⟨rfl, _⟩ | ⟨g, cap, cur, rfl, _⟩
    · exact ⟨_, _, rfl⟩
    · exact ⟨_, _, rfl⟩

/-- two rows of the call's own do not share a block -/
def Apart (v u : Value) : Prop := ∀ g, v.ownBlock = some g → u.ownBlock ≠ some g
theorem Apart.symm {v u : Value} (h : Apart v u) : Apart u v := fun g hg hv => h g hv hg
theorem Apart.kept {w w' : World} {base : Nat} {e : TypeId} {size n : Nat} {v u : Value} {xs : List Value} (h : w.ownsRow base e size u n xs) (ha : Apart v u) (hg : w.grownBy w' v.ownBlock) : w'.ownsRow base e size u n xs := by
  refine h.kept hg ?_
  cases hu : u.ownBlock with
  | none => exact .inl rfl
  | some g => exact .inr fun e => ha g e.symm hu
theorem Apart.step {w w1 : World} {base : Nat} {e : TypeId} {size n : Nat} {v v' u : Value} {xs : List Value} (h : w.ownsRow base e size u n xs) (hs : w.heap.size ≤ w1.heap.size) (ha : Apart v u) (hv : v'.ownBlock = v.ownBlock ∨ v'.ownBlock = some w1.heap.size) : Apart v' u := by
  intro g hg hu
  rcases hv with h1 | h1
  · exact ha g (h1 ▸ hg) hu
  · have := (h.lt g hu).2
    rw [h1] at hg
    injection hg with hg
    omega

theorem own_below {w w' : World} {base : Nat} {e : TypeId} {size n : Nat} {v : Value} {xs : List Value} (h : w.ownsRow base e size v n xs) (hb : Below w.heap.size w w') : w'.ownsRow base e size v n xs :=
  h.kept (row := none) ⟨hb.os, hb.tape, hb.output, hb.size, fun k hk _ => hb.block k hk⟩ (by cases v.ownBlock <;> simp)

def rowOf (f : Nat → Int) (k : Nat) : List Value := (List.range k).map fun j => .int .i64 (f j)
theorem rowOf_succ (f : Nat → Int) (k : Nat) : rowOf f k ++ [.int .i64 (f k)] = rowOf f (k + 1) := by simp [rowOf, List.range_succ]
theorem rowOf_at (f : Nat → Int) (k j : Nat) (h : j < k) : (rowOf f k)[j]? = some (.int .i64 (f j)) := by simp [rowOf, h]

/-- the coefficients of the sum, and of the multiple -/
def sumC (na nb : Nat) (f g : Nat → Int) (j : Nat) : Int := if j < nb then ((if j < na then f j else 0) + g j) % 1073741789 else f j
def timC (m : Int) (f : Nat → Int) (j : Nat) : Int := m * f j % 1073741789

theorem vN_cg {f g : Nat → Int} {t : Int} : ∀ n, (∀ j, j < n → Cg (f j) (g j)) → Cg (vN f t n) (vN g t n)
  | 0, _ => Pl.Cg.refl _
  | n + 1, h => (vN_cg n fun j hj => h j (by omega)).add ((h n (by omega)).mul (Pl.Cg.refl _))
theorem vN_add (f g : Nat → Int) (t : Int) : ∀ n, vN (fun j => f j + g j) t n = vN f t n + vN g t n
  | 0 => rfl
  | n + 1 => by simp only [vN, vN_add f g t n]; grind
theorem vN_mul (m : Int) (f : Nat → Int) (t : Int) : ∀ n, vN (fun j => m * f j) t n = m * vN f t n
  | 0 => by simp [vN]
  | n + 1 => by simp only [vN, vN_mul m f t n]; grind
theorem vN_pad (f : Nat → Int) (t : Int) (n : Nat) : ∀ m, n ≤ m → vN (fun j => if j < n then f j else 0) t m = vN f t n
  | 0, h => by
    have : n = 0 := by omega
    subst this; rfl
  | m + 1, h => by
    by_cases e : n = m + 1
    · subst e
      have : ∀ k, k ≤ m + 1 → vN (fun j => if j < m + 1 then f j else 0) t k = vN f t k := by
        intro k
        induction k with
        | zero => intro _; rfl
        | succ k ih =>
          intro hk
          simp only [vN, ih (by omega)]
          rw [if_pos (by omega)]
      exact this _ (Nat.le_refl _)
    · simp only [vN, vN_pad f t n m (by omega)]
      rw [if_neg (by omega)]
      omega
theorem sum_law (na nb N : Nat) (f g : Nat → Int) (t : Int) (h1 : na ≤ N) (h2 : nb ≤ N) (h3 : N ≤ na ∨ N ≤ nb) :
    vN (sumC na nb f g) t N % 1073741789 = (vN f t na % 1073741789 + vN g t nb % 1073741789) % 1073741789 := by
  rw [Pl.cg_iff]
  refine Pl.Cg.trans ?_ ((Pl.Cg.mod _).add (Pl.Cg.mod _)).symm
  rw [← vN_pad f t na N h1, ← vN_pad g t nb N h2, ← vN_add]
  refine vN_cg N fun j hj => ?_
  unfold sumC
  by_cases ha : j < na <;> by_cases hb : j < nb
  · simp only [ha, hb, if_true]; exact Pl.Cg.mod _
  · simp only [ha, hb, if_true, if_false]; exact Pl.Cg.of_eq (by omega)
  · simp only [ha, hb, if_true, if_false]; exact Pl.Cg.mod _
  · omega
theorem times_law (m : Int) (n : Nat) (f : Nat → Int) (t : Int) : vN (timC m f) t n % 1073741789 = m * (vN f t n % 1073741789) % 1073741789 := by
  rw [Pl.cg_iff]
  refine Pl.Cg.trans ?_ ((Pl.Cg.refl m).mul (Pl.Cg.mod _)).symm
  rw [← vN_mul]
  exact vN_cg n fun j _ => Pl.Cg.mod _

theorem i64_mod (a : Int) : I64 (a % 1073741789) := by constructor <;> omega
theorem sumC_i64 {na nb : Nat} {f g : Nat → Int} (hf : ∀ j, I64 (f j)) (j : Nat) : I64 (sumC na nb f g j) := by
  unfold sumC
  split
  · exact i64_mod _
  · exact hf j
theorem info3 : (Try.prog.info? 3).map (fun i => (i.zero, i.size, i.bytes)) = some (some (.int .i64 0), 1, 8) := by kernel_rfl

set_option maxRecDepth 100000 in
set_option maxHeartbeats 2000000 in
theorem sums_8 (A A' : Option Addr) (n c n' c' B : Nat) (f g : Nat → Int) (m t : Int) (w : World) (hm : n ≤ 9223372036854775807) (hm' : n' ≤ 9223372036854775807) (hB : B ≤ w.heap.size)
    (hr : Rd w B A n (fun j => .int .i64 (f j))) (hr' : Rd w B A' n' (fun j => .int .i64 (g j))) (hf : ∀ j, I64 (f j)) (hg : ∀ j, I64 (g j)) (hmm : I64 m) (ht : I64 t) :
    Calls Try.prog 8 #[.slice A n c, .slice A' n' c', .int .i64 m, .int .i64 t] w fun e w' => e = .returned (.bool true) ∧ Below w.heap.size w w' := by
  have HF := Lib.hid hf
  have HG := Lib.hid hg
  have HM := Lib.hid hmm
  have HT := Lib.hid ht
  have HR := Lib.hid hr
  have HR' := Lib.hid hr'
  obtain ⟨i0, hi, hz0, hz1, hz2⟩ := info_parts info3
  clear hf hg hmm ht hr hr'
  by_cases hn : 100 < n
  · have hn' : (100 : Int) < n := by omega
    go_enter Try.func8, Try.ntmps8
    go_wp2_with fail
    refine (sane_9 _).mono ?_
    rintro e w1 ⟨rfl, hb1⟩
    have B1 := Lib.hid hb1
    clear hb1
    go_wp2_with fail
    all_goals (go_ret; exact ⟨rfl, B1.out⟩)
  have hn1 : (n : Int) ≤ 100 := by omega
  by_cases hn2 : 100 < n'
  · have hn' : (100 : Int) < n' := by omega
    go_enter Try.func8, Try.ntmps8
    go_wp2_with fail
    refine (sane_9 _).mono ?_
    rintro e w1 ⟨rfl, hb1⟩
    have B1 := Lib.hid hb1
    clear hb1
    go_wp2_with fail
    all_goals (go_ret; exact ⟨rfl, B1.out⟩)
  have hn3 : (n' : Int) ≤ 100 := by omega
  rcases Nat.lt_or_ge n n' with hle | hle
  · have hmx : (n : Int) < n' := by omega
    go_enter Try.func8, Try.ntmps8
    go_wp2_with fail
    refine (sane_9 _).mono ?_
    rintro e w1 ⟨rfl, hb1⟩
    have B1 := Lib.hid hb1
    clear hb1
    go_wp2_with fail
    go_loopw [9, 10, 28] (fun s u i wr => ∃ k : Nat, k ≤ n' ∧ i = .int .i64 k ∧ wr.ownsRow w1.heap.size 3 1 s k (rowOf (sumC n n' f g) k) ∧ wr.ownsRow w1.heap.size 3 1 u (min k n) (rowOf (timC m f) (min k n)) ∧ Apart s u ∧ Below w1.heap.size w1 wr) (fun _ _ i _ => n' - (intOf i).toNat)
    case atStart => exact ⟨0, by omega, rfl, World.ownsRow_nil _ _ _ _, (by rw [Nat.zero_min]; exact World.ownsRow_nil _ _ _ _), (by intro g' hg'; cases hg'), Below.refl _ _⟩
    case round =>
      obtain ⟨k, hk, rfl, hs, hu, hap, hb⟩ := hrel
      have HS := Lib.hid hs
      have HU := Lib.hid hu
      have HAP := Lib.hid hap
      have HBL := Lib.hid hb
      have hsz := hb.size
      clear hs hu hap hb
      by_cases hlt : k < n'
      · have hkn : (k : Int) < n' := by omega
        have hb' := hlt
        by_cases ha : k < n
        · have ha' : (k : Int) < n := by omega
          have hb2 : (k : Int) < n' := by omega
          have HUK : Hid (wr.ownsRow w1.heap.size 3 1 u10 k (rowOf (timC m f) k)) := Lib.hid (by have := HU.out; rw [Nat.min_eq_left (by omega : k ≤ n)] at this; exact this)
          obtain ⟨b1, o1, e1, _, c1⟩ := (Rd.below HR.out ((B1.out.mono hB).trans (HBL.out.mono (Nat.le_trans hB B1.out.size)))) (by omega)
          have c1k := c1 k ha
          subst e1
          clear c1
          have HFK := Lib.hid (HF.out k)
          go_wp2_with fail
          refine (mul_16 _ _ _ HM.out HFK.out).mono ?_
          rintro e w' ⟨rfl, rfl⟩
          go_wp2_with (at_builtin; refine wpList_append_own_at _ rfl _ _ 29 rfl w1.heap.size 3 i0 (.int .i64 0) 1 8 Try.underlying29 hi hz0 hz1 hz2 rfl (by decide) u10 k (rowOf (timC m f) k) rfl (HUK.out.alloc _) ⟨_, 0, none⟩ 1 1 [.int .i64 (m * f k % 1073741789)] rfl rfl (cell_one_new _ _ _) (by simp [Value.oneCell']) (by unfold maxLen; omega) (by omega) (by simp; omega) ?_; intro v3 w3 hown3 hgrow3 _ hat3)
          have HU3 : Hid (w3.ownsRow w1.heap.size 3 1 v3 (min (k + 1) n) (rowOf (timC m f) (min (k + 1) n))) := Lib.hid (by rw [Nat.min_eq_left (by omega : k + 1 ≤ n), ← rowOf_succ]; exact hown3)
          have HS3 : Hid (w3.ownsRow w1.heap.size 3 1 u9 k (rowOf (sumC n n' f g) k)) := Lib.hid (Apart.kept (HS.out.alloc _) HAP.out.symm hgrow3)
          have HAP3 : Hid (Apart u9 v3) := Lib.hid (Apart.step HS.out (by simp) HAP.out.symm hat3).symm
          have HB3 : Hid (Below w1.heap.size w1 w3) := Lib.hid ((HBL.out.trans (Below.mono (below_alloc _ _) hsz)).grown hgrow3 (by simp; omega) (fun j hj => (HUK.out.lt j hj).1))
          have hsz3 := HB3.out.size
          clear hown3 hgrow3 hat3
          obtain ⟨b2, o2, e2, _, c2⟩ := (Rd.below HR'.out ((B1.out.mono hB).trans (HB3.out.mono (Nat.le_trans hB B1.out.size)))) (by omega)
          have c2k := c2 k hb'
          subst e2
          clear c2
          have HX := Lib.hid (HF.out k)
          go_wp2_with fail
          refine (add_14 _ _ _ HX.out (HG.out k)).mono ?_
          rintro e w4 ⟨rfl, hb4⟩
          have HU4 := Lib.hid (own_below HU3.out hb4)
          have HS4 := Lib.hid (own_below HS3.out hb4)
          have HB4 := Lib.hid (below_then HB3.out hb4 (Nat.le_refl _))
          have hsz4 := HB4.out.size
          clear hb4
          go_wp2_with (at_builtin; refine wpList_append_own_at _ rfl _ _ 29 rfl w1.heap.size 3 i0 (.int .i64 0) 1 8 Try.underlying29 hi hz0 hz1 hz2 rfl (by decide) u9 k (rowOf (sumC n n' f g) k) rfl (HS4.out.alloc _) ⟨_, 0, none⟩ 1 1 [.int .i64 ((f k + g k) % 1073741789)] rfl rfl (cell_one_new _ _ _) (by simp [Value.oneCell']) (by unfold maxLen; omega) (by omega) (by simp; omega) ?_; intro v6 w6 hown6 hgrow6 _ hat6)
          go_roundw
          case rel =>
            have e : sumC n n' f g k = (f k + g k) % 1073741789 := by unfold sumC; rw [if_pos hb', if_pos ha]
            refine ⟨k + 1, by omega, by go_num, ?_, Apart.kept (HU4.out.alloc _) HAP3.out hgrow6, Apart.step HU4.out (by simp) HAP3.out hat6, (HB4.out.trans (Below.mono (below_alloc _ _) hsz4)).grown hgrow6 (by simp; omega) (fun j hj => (HS4.out.lt j hj).1)⟩
            rw [← rowOf_succ, e]
            exact hown6
          case measure => simp [intOf]; omega
        · have ha' : (n : Int) ≤ k := by omega
          have hb2 : (k : Int) < n' := by omega
          have HU3 : Hid (wr.ownsRow w1.heap.size 3 1 u10 (min (k + 1) n) (rowOf (timC m f) (min (k + 1) n))) := Lib.hid (by have := HU.out; rw [Nat.min_eq_right (by omega : n ≤ k)] at this; rw [Nat.min_eq_right (by omega : n ≤ k + 1)]; exact this)
          have HS3 := HS
          have HAP3 := HAP
          have HB3 := HBL
          have hsz3 := hsz
          obtain ⟨b2, o2, e2, _, c2⟩ := (Rd.below HR'.out ((B1.out.mono hB).trans (HB3.out.mono (Nat.le_trans hB B1.out.size)))) (by omega)
          have c2k := c2 k hb'
          subst e2
          clear c2
          have HX := Lib.hid (small 0 (by decide))
          go_wp2_with fail
          refine (add_14 _ _ _ HX.out (HG.out k)).mono ?_
          rintro e w4 ⟨rfl, hb4⟩
          have HU4 := Lib.hid (own_below HU3.out hb4)
          have HS4 := Lib.hid (own_below HS3.out hb4)
          have HB4 := Lib.hid (below_then HB3.out hb4 (Nat.le_refl _))
          have hsz4 := HB4.out.size
          clear hb4
          go_wp2_with (at_builtin; refine wpList_append_own_at _ rfl _ _ 29 rfl w1.heap.size 3 i0 (.int .i64 0) 1 8 Try.underlying29 hi hz0 hz1 hz2 rfl (by decide) u9 k (rowOf (sumC n n' f g) k) rfl (HS4.out.alloc _) ⟨_, 0, none⟩ 1 1 [.int .i64 (g k % 1073741789)] rfl rfl (cell_one_new _ _ _) (by simp [Value.oneCell']) (by unfold maxLen; omega) (by omega) (by simp; omega) ?_; intro v6 w6 hown6 hgrow6 _ hat6)
          go_roundw
          case rel =>
            have e : sumC n n' f g k = g k % 1073741789 := by unfold sumC; rw [if_pos hb', if_neg ha, Int.zero_add]
            refine ⟨k + 1, by omega, by go_num, ?_, Apart.kept (HU4.out.alloc _) HAP3.out hgrow6, Apart.step HU4.out (by simp) HAP3.out hat6, (HB4.out.trans (Below.mono (below_alloc _ _) hsz4)).grown hgrow6 (by simp; omega) (fun j hj => (HS4.out.lt j hj).1)⟩
            rw [← rowOf_succ, e]
            exact hown6
          case measure => simp [intOf]; omega
      · have hkN : k = n' := by omega
        subst k
        have hnn : min n' n = n := Nat.min_eq_right (by omega)
        obtain ⟨A9, c9, rfl⟩ := own_form HS.out
        have HRS : Hid (Rd wr wr.heap.size A9 n' (fun j => .int .i64 (sumC n n' f g j))) := Lib.hid (by have := Rd.of_own HS.out (f := fun j => .int .i64 (sumC n n' f g j)) (fun j hj => rowOf_at _ _ _ (by omega)); rw [Nat.mul_one] at this; exact this)
        have HU' : Hid (wr.ownsRow w1.heap.size 3 1 u10 n (rowOf (timC m f) n)) := Lib.hid (by have := HU.out; rw [hnn] at this; exact this)
        obtain ⟨A10, c10, rfl⟩ := own_form HU'.out
        have HRU : Hid (Rd wr wr.heap.size A10 n (fun j => .int .i64 (timC m f j))) := Lib.hid (by have := Rd.of_own HU'.out (f := fun j => .int .i64 (timC m f j)) (fun j hj => rowOf_at _ _ _ (by omega)); rw [Nat.mul_one] at this; exact this)
        have HRA : Hid (Rd wr B A n (fun j => .int .i64 (f j))) := Lib.hid (Rd.below HR.out ((B1.out.mono hB).trans (HBL.out.mono (Nat.le_trans hB B1.out.size))))
        have HRB : Hid (Rd wr B A' n' (fun j => .int .i64 (g j))) := Lib.hid (Rd.below HR'.out ((B1.out.mono hB).trans (HBL.out.mono (Nat.le_trans hB B1.out.size))))
        have hBr : B ≤ wr.heap.size := Nat.le_trans (Nat.le_trans hB B1.out.size) hsz
        have HL := Lib.hid (sum_law n n' n' f g t (by omega) (by omega) (by omega))
        have HT' := Lib.hid (times_law m n f t)
        clear HS HU HU' HAP hnn
        go_wp2_with fail
        refine (value_21 _ _ _ _ (sumC n n' f g) _ _ (by omega) (Nat.le_refl _) HRS.out (fun j _ => sumC_i64 HF.out j) HT.out).mono ?_
        rintro e w2 ⟨rfl, hb2⟩
        have B2 := Lib.hid hb2
        clear hb2
        have hs2 := B2.out.size
        go_wp2_with fail
        refine (value_21 _ _ _ _ f _ _ (by omega) (Nat.le_trans hBr hs2) (Rd.below HRA.out (B2.out.mono hBr)) (fun j _ => HF.out j) HT.out).mono ?_
        rintro e w3 ⟨rfl, hb3⟩
        have B3 := Lib.hid (below_then B2.out hb3 (Nat.le_refl _))
        clear hb3
        have hs3 := B3.out.size
        go_wp2_with fail
        refine (value_21 _ _ _ _ g _ _ (by omega) (Nat.le_trans hBr hs3) (Rd.below HRB.out (B3.out.mono hBr)) (fun j _ => HG.out j) HT.out).mono ?_
        rintro e w4 ⟨rfl, hb4⟩
        have B4 := Lib.hid (below_then B3.out hb4 (Nat.le_refl _))
        clear hb4
        have hs4 := B4.out.size
        go_wp2_with fail
        refine (add_14 _ _ _ (i64_mod _) (i64_mod _)).mono ?_
        rintro e w5 ⟨rfl, hb5⟩
        have B5 := Lib.hid (below_then B4.out hb5 (Nat.le_refl _))
        clear hb5
        have hs5 := B5.out.size
        rw [HL.out]
        go_wp2_with fail
        refine (value_21 _ _ _ _ (timC m f) _ _ (by omega) hs5 (Rd.below HRU.out B5.out) (fun j _ => i64_mod _) HT.out).mono ?_
        rintro e w6 ⟨rfl, hb6⟩
        have B6 := Lib.hid (below_then B5.out hb6 (Nat.le_refl _))
        clear hb6
        have hs6 := B6.out.size
        go_wp2_with fail
        refine (value_21 _ _ _ _ f _ _ (by omega) (Nat.le_trans hBr hs6) (Rd.below HRA.out (B6.out.mono hBr)) (fun j _ => HF.out j) HT.out).mono ?_
        rintro e w7 ⟨rfl, hb7⟩
        have B7 := Lib.hid (below_then B6.out hb7 (Nat.le_refl _))
        clear hb7
        go_wp2_with fail
        refine (mul_16 _ _ _ HM.out (i64_mod _)).mono ?_
        rintro e w8 ⟨rfl, rfl⟩
        rw [HT'.out]
        go_wp2_with fail
        go_ret
        exact ⟨rfl, B1.out.trans ((HBL.out.mono B1.out.size).trans (B7.out.mono (Nat.le_trans B1.out.size hsz)))⟩
  · have hmx : (n' : Int) ≤ n := by omega
    go_enter Try.func8, Try.ntmps8
    go_wp2_with fail
    refine (sane_9 _).mono ?_
    rintro e w1 ⟨rfl, hb1⟩
    have B1 := Lib.hid hb1
    clear hb1
    go_wp2_with fail
    go_loopw [9, 10, 28] (fun s u i wr => ∃ k : Nat, k ≤ n ∧ i = .int .i64 k ∧ wr.ownsRow w1.heap.size 3 1 s k (rowOf (sumC n n' f g) k) ∧ wr.ownsRow w1.heap.size 3 1 u (min k n) (rowOf (timC m f) (min k n)) ∧ Apart s u ∧ Below w1.heap.size w1 wr) (fun _ _ i _ => n - (intOf i).toNat)
    case atStart => exact ⟨0, by omega, rfl, World.ownsRow_nil _ _ _ _, (by rw [Nat.zero_min]; exact World.ownsRow_nil _ _ _ _), (by intro g' hg'; cases hg'), Below.refl _ _⟩
    case round =>
      obtain ⟨k, hk, rfl, hs, hu, hap, hb⟩ := hrel
      have HS := Lib.hid hs
      have HU := Lib.hid hu
      have HAP := Lib.hid hap
      have HBL := Lib.hid hb
      have hsz := hb.size
      clear hs hu hap hb
      by_cases hlt : k < n
      · have hkn : (k : Int) < n := by omega
        have ha := hlt
        by_cases hb' : k < n'
        · have ha' : (k : Int) < n := by omega
          have hb2 : (k : Int) < n' := by omega
          have HUK : Hid (wr.ownsRow w1.heap.size 3 1 u10 k (rowOf (timC m f) k)) := Lib.hid (by have := HU.out; rw [Nat.min_eq_left (by omega : k ≤ n)] at this; exact this)
          obtain ⟨b1, o1, e1, _, c1⟩ := (Rd.below HR.out ((B1.out.mono hB).trans (HBL.out.mono (Nat.le_trans hB B1.out.size)))) (by omega)
          have c1k := c1 k ha
          subst e1
          clear c1
          have HFK := Lib.hid (HF.out k)
          go_wp2_with fail
          refine (mul_16 _ _ _ HM.out HFK.out).mono ?_
          rintro e w' ⟨rfl, rfl⟩
          go_wp2_with (at_builtin; refine wpList_append_own_at _ rfl _ _ 29 rfl w1.heap.size 3 i0 (.int .i64 0) 1 8 Try.underlying29 hi hz0 hz1 hz2 rfl (by decide) u10 k (rowOf (timC m f) k) rfl (HUK.out.alloc _) ⟨_, 0, none⟩ 1 1 [.int .i64 (m * f k % 1073741789)] rfl rfl (cell_one_new _ _ _) (by simp [Value.oneCell']) (by unfold maxLen; omega) (by omega) (by simp; omega) ?_; intro v3 w3 hown3 hgrow3 _ hat3)
          have HU3 : Hid (w3.ownsRow w1.heap.size 3 1 v3 (min (k + 1) n) (rowOf (timC m f) (min (k + 1) n))) := Lib.hid (by rw [Nat.min_eq_left (by omega : k + 1 ≤ n), ← rowOf_succ]; exact hown3)
          have HS3 : Hid (w3.ownsRow w1.heap.size 3 1 u9 k (rowOf (sumC n n' f g) k)) := Lib.hid (Apart.kept (HS.out.alloc _) HAP.out.symm hgrow3)
          have HAP3 : Hid (Apart u9 v3) := Lib.hid (Apart.step HS.out (by simp) HAP.out.symm hat3).symm
          have HB3 : Hid (Below w1.heap.size w1 w3) := Lib.hid ((HBL.out.trans (Below.mono (below_alloc _ _) hsz)).grown hgrow3 (by simp; omega) (fun j hj => (HUK.out.lt j hj).1))
          have hsz3 := HB3.out.size
          clear hown3 hgrow3 hat3
          obtain ⟨b2, o2, e2, _, c2⟩ := (Rd.below HR'.out ((B1.out.mono hB).trans (HB3.out.mono (Nat.le_trans hB B1.out.size)))) (by omega)
          have c2k := c2 k hb'
          subst e2
          clear c2
          have HX := Lib.hid (HF.out k)
          go_wp2_with fail
          refine (add_14 _ _ _ HX.out (HG.out k)).mono ?_
          rintro e w4 ⟨rfl, hb4⟩
          have HU4 := Lib.hid (own_below HU3.out hb4)
          have HS4 := Lib.hid (own_below HS3.out hb4)
          have HB4 := Lib.hid (below_then HB3.out hb4 (Nat.le_refl _))
          have hsz4 := HB4.out.size
          clear hb4
          go_wp2_with (at_builtin; refine wpList_append_own_at _ rfl _ _ 29 rfl w1.heap.size 3 i0 (.int .i64 0) 1 8 Try.underlying29 hi hz0 hz1 hz2 rfl (by decide) u9 k (rowOf (sumC n n' f g) k) rfl (HS4.out.alloc _) ⟨_, 0, none⟩ 1 1 [.int .i64 ((f k + g k) % 1073741789)] rfl rfl (cell_one_new _ _ _) (by simp [Value.oneCell']) (by unfold maxLen; omega) (by omega) (by simp; omega) ?_; intro v6 w6 hown6 hgrow6 _ hat6)
          go_roundw
          case rel =>
            have e : sumC n n' f g k = (f k + g k) % 1073741789 := by unfold sumC; rw [if_pos hb', if_pos ha]
            refine ⟨k + 1, by omega, by go_num, ?_, Apart.kept (HU4.out.alloc _) HAP3.out hgrow6, Apart.step HU4.out (by simp) HAP3.out hat6, (HB4.out.trans (Below.mono (below_alloc _ _) hsz4)).grown hgrow6 (by simp; omega) (fun j hj => (HS4.out.lt j hj).1)⟩
            rw [← rowOf_succ, e]
            exact hown6
          case measure => simp [intOf]; omega
        · have ha' : (k : Int) < n := by omega
          have hb2 : (n' : Int) ≤ k := by omega
          have HUK : Hid (wr.ownsRow w1.heap.size 3 1 u10 k (rowOf (timC m f) k)) := Lib.hid (by have := HU.out; rw [Nat.min_eq_left (by omega : k ≤ n)] at this; exact this)
          obtain ⟨b1, o1, e1, _, c1⟩ := (Rd.below HR.out ((B1.out.mono hB).trans (HBL.out.mono (Nat.le_trans hB B1.out.size)))) (by omega)
          have c1k := c1 k ha
          subst e1
          clear c1
          have HFK := Lib.hid (HF.out k)
          go_wp2_with fail
          refine (mul_16 _ _ _ HM.out HFK.out).mono ?_
          rintro e w' ⟨rfl, rfl⟩
          go_wp2_with (at_builtin; first
            | (refine wpList_append_own_at _ rfl _ _ 29 rfl w1.heap.size 3 i0 (.int .i64 0) 1 8 Try.underlying29 hi hz0 hz1 hz2 rfl (by decide) u10 k (rowOf (timC m f) k) rfl (HUK.out.alloc _) ⟨_, 0, none⟩ 1 1 [.int .i64 (m * f k % 1073741789)] rfl rfl (cell_one_new _ _ _) (by simp [Value.oneCell']) (by unfold maxLen; omega) (by omega) (by simp; omega) ?_; intro v3 w3 hown3 hgrow3 _ hat3
               have HU3 : Hid (w3.ownsRow w1.heap.size 3 1 v3 (min (k + 1) n) (rowOf (timC m f) (min (k + 1) n))) := Lib.hid (by rw [Nat.min_eq_left (by omega : k + 1 ≤ n), ← rowOf_succ]; exact hown3)
               have HS3 : Hid (w3.ownsRow w1.heap.size 3 1 u9 k (rowOf (sumC n n' f g) k)) := Lib.hid (Apart.kept (HS.out.alloc _) HAP.out.symm hgrow3)
               have HAP3 : Hid (Apart u9 v3) := Lib.hid (Apart.step HS.out (by simp) HAP.out.symm hat3).symm
               have HB3 : Hid (Below w1.heap.size w1 w3) := Lib.hid ((HBL.out.trans (Below.mono (below_alloc _ _) hsz)).grown hgrow3 (by simp; omega) (fun j hj => (HUK.out.lt j hj).1))
               have hsz3 := HB3.out.size
               clear hown3 hgrow3 hat3
               have HU4 := HU3
               have HS4 := HS3
               have HB4 := HB3
               have hsz4 := hsz3)
            | (refine wpList_append_own_at _ rfl _ _ 29 rfl w1.heap.size 3 i0 (.int .i64 0) 1 8 Try.underlying29 hi hz0 hz1 hz2 rfl (by decide) u9 k (rowOf (sumC n n' f g) k) rfl (HS4.out.alloc _) ⟨_, 0, none⟩ 1 1 [.int .i64 (f k)] rfl rfl (cell_one_new _ _ _) (by simp [Value.oneCell']) (by unfold maxLen; omega) (by omega) (by simp; omega) ?_; intro v6 w6 hown6 hgrow6 _ hat6))
          go_roundw
          case rel =>
            have e : sumC n n' f g k = f k := by unfold sumC; rw [if_neg hb']
            refine ⟨k + 1, by omega, by go_num, ?_, Apart.kept (HU4.out.alloc _) HAP3.out hgrow6, Apart.step HU4.out (by simp) HAP3.out hat6, (HB4.out.trans (Below.mono (below_alloc _ _) hsz4)).grown hgrow6 (by simp; omega) (fun j hj => (HS4.out.lt j hj).1)⟩
            rw [← rowOf_succ, e]
            exact hown6
          case measure => simp [intOf]; omega
      · have hkN : k = n := by omega
        subst k
        have hnn : min n n = n := Nat.min_eq_right (by omega)
        obtain ⟨A9, c9, rfl⟩ := own_form HS.out
        have HRS : Hid (Rd wr wr.heap.size A9 n (fun j => .int .i64 (sumC n n' f g j))) := Lib.hid (by have := Rd.of_own HS.out (f := fun j => .int .i64 (sumC n n' f g j)) (fun j hj => rowOf_at _ _ _ (by omega)); rw [Nat.mul_one] at this; exact this)
        have HU' : Hid (wr.ownsRow w1.heap.size 3 1 u10 n (rowOf (timC m f) n)) := Lib.hid (by have := HU.out; rw [hnn] at this; exact this)
        obtain ⟨A10, c10, rfl⟩ := own_form HU'.out
        have HRU : Hid (Rd wr wr.heap.size A10 n (fun j => .int .i64 (timC m f j))) := Lib.hid (by have := Rd.of_own HU'.out (f := fun j => .int .i64 (timC m f j)) (fun j hj => rowOf_at _ _ _ (by omega)); rw [Nat.mul_one] at this; exact this)
        have HRA : Hid (Rd wr B A n (fun j => .int .i64 (f j))) := Lib.hid (Rd.below HR.out ((B1.out.mono hB).trans (HBL.out.mono (Nat.le_trans hB B1.out.size))))
        have HRB : Hid (Rd wr B A' n' (fun j => .int .i64 (g j))) := Lib.hid (Rd.below HR'.out ((B1.out.mono hB).trans (HBL.out.mono (Nat.le_trans hB B1.out.size))))
        have hBr : B ≤ wr.heap.size := Nat.le_trans (Nat.le_trans hB B1.out.size) hsz
        have HL := Lib.hid (sum_law n n' n f g t (by omega) (by omega) (by omega))
        have HT' := Lib.hid (times_law m n f t)
        clear HS HU HU' HAP hnn
        go_wp2_with fail
        refine (value_21 _ _ _ _ (sumC n n' f g) _ _ (by omega) (Nat.le_refl _) HRS.out (fun j _ => sumC_i64 HF.out j) HT.out).mono ?_
        rintro e w2 ⟨rfl, hb2⟩
        have B2 := Lib.hid hb2
        clear hb2
        have hs2 := B2.out.size
        go_wp2_with fail
        refine (value_21 _ _ _ _ f _ _ (by omega) (Nat.le_trans hBr hs2) (Rd.below HRA.out (B2.out.mono hBr)) (fun j _ => HF.out j) HT.out).mono ?_
        rintro e w3 ⟨rfl, hb3⟩
        have B3 := Lib.hid (below_then B2.out hb3 (Nat.le_refl _))
        clear hb3
        have hs3 := B3.out.size
        go_wp2_with fail
        refine (value_21 _ _ _ _ g _ _ (by omega) (Nat.le_trans hBr hs3) (Rd.below HRB.out (B3.out.mono hBr)) (fun j _ => HG.out j) HT.out).mono ?_
        rintro e w4 ⟨rfl, hb4⟩
        have B4 := Lib.hid (below_then B3.out hb4 (Nat.le_refl _))
        clear hb4
        have hs4 := B4.out.size
        go_wp2_with fail
        refine (add_14 _ _ _ (i64_mod _) (i64_mod _)).mono ?_
        rintro e w5 ⟨rfl, hb5⟩
        have B5 := Lib.hid (below_then B4.out hb5 (Nat.le_refl _))
        clear hb5
        have hs5 := B5.out.size
        rw [HL.out]
        go_wp2_with fail
        refine (value_21 _ _ _ _ (timC m f) _ _ (by omega) hs5 (Rd.below HRU.out B5.out) (fun j _ => i64_mod _) HT.out).mono ?_
        rintro e w6 ⟨rfl, hb6⟩
        have B6 := Lib.hid (below_then B5.out hb6 (Nat.le_refl _))
        clear hb6
        have hs6 := B6.out.size
        go_wp2_with fail
        refine (value_21 _ _ _ _ f _ _ (by omega) (Nat.le_trans hBr hs6) (Rd.below HRA.out (B6.out.mono hBr)) (fun j _ => HF.out j) HT.out).mono ?_
        rintro e w7 ⟨rfl, hb7⟩
        have B7 := Lib.hid (below_then B6.out hb7 (Nat.le_refl _))
        clear hb7
        go_wp2_with fail
        refine (mul_16 _ _ _ HM.out (i64_mod _)).mono ?_
        rintro e w8 ⟨rfl, rfl⟩
        rw [HT'.out]
        go_wp2_with fail
        go_ret
        exact ⟨rfl, B1.out.trans ((HBL.out.mono B1.out.size).trans (B7.out.mono (Nat.le_trans B1.out.size hsz)))⟩

end Go.Proofs.Ytklngacahhlhmaa
