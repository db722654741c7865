/- Stakes: contracts of check, of the iterator forfeits and of Forfeit. Stakes: contract of Forfeit. -/
import Derived.Test.YtonkjnkokikpgaaGreatStk
import Derived.Test.YtonkjnkokikpgaaGreatTrials
import Derived.Test.YtonkjnkokikpgaaGreatFails
namespace Go.Proofs.YtonkjnkokikpgaaGreat
open Go.RowKit

set_option maxRecDepth 100000 in
set_option maxHeartbeats 2000000 in
theorem check_37 (A C : Option Addr) (n c m d B : Nat) (s : StkF) (p : PastF) (w : World) (hB : B ≤ w.heap.size) (hr : Rd w B A (n * 4) s.cells) (hg : StGood n s) (hp : PastRd w B C m p) (hpg : PGood m p) (hri : Rises m p.bd) :
    Calls Tryz.prog 37 #[.slice A n c, .slice C m d] w fun e w' => e = .returned (.int .i64 0) ∧ Below w.heap.size w w' := by
  have HC := Lib.hid (Check_31 A n c B s w hB hr hg)
  have hm : m ≤ 256 := hpg.1
  have HD : Hid (∀ W, Below w.heap.size w W → Calls Tryz.prog 44 #[.slice C m d] W fun e w' => e = .returned (.int .i64 0) ∧ Below W.heap.size W w') := Lib.hid fun W h => by
    have := Check_44 C m d B p W (by omega) (Nat.le_trans hB h.size) (hp.below (h.mono hB))
    rwa [pastE_iff.2 hpg] at this
  have HP := Lib.hid hp
  have HI := Lib.hid hri
  have HG := Lib.hid hpg.2
  clear hr hg hp hpg hri
  go_enter Tryz.func37, Tryz.ntmps37
  go_wp2_with fail
  refine HC.out.mono ?_
  rintro e w1 ⟨rfl, hb⟩
  have HB1 := Lib.hid hb
  clear hb HC
  go_wp2_with fail
  refine (HD.out w1 HB1.out).mono ?_
  rintro e w2 ⟨rfl, hb⟩
  have HB2 := Lib.hid (HB1.out.trans (hb.mono HB1.out.size))
  clear hb HD HB1
  go_wp2_with fail
  go_loopw [5, 20] (fun l i wr => ∃ (k : Nat) (L : Int), k ≤ m ∧ i = .int .i64 k ∧ l = .int .i64 L ∧ Hid (k < m → L < p.bd k) ∧ Below w.heap.size w wr) (fun _ i _ => m - (intOf i).toNat)
  case atStart => exact ⟨0, -1, Nat.zero_le _, rfl, rfl, Lib.hid (fun h => by have := HG.out 0 h; omega), HB2.out⟩
  case round =>
    obtain ⟨k, L, hk, rfl, rfl, HL, hb⟩ := hrel
    have HD := Lib.hid hb
    have hzr := hb.size
    clear hb
    by_cases hlt : ¬ k < m
    · have hlt' : ¬ (k : Int) < (m : Int) := by omega
      go_wp2_with fail
      go_ret
      exact ⟨rfl, HD.out⟩
    have hlt : k < m := by omega
    have hlt' : (k : Int) < (m : Int) := by omega
    have hLk := HL.out hlt
    have hle : ¬ (p.bd k ≤ L) := by omega
    have HNX : Hid (k + 1 < m → p.bd k < p.bd (k + 1)) := Lib.hid fun h => HI.out k (k + 1) (by omega) h
    have hcc := (HP.out.below (HD.out.mono hB)).1
    unfold PastF.cells at hcc
    obtain ⟨rb, ro, rfl, _, r0, r1, r2⟩ := pcc_at hcc hlt
    clear hcc HL
    generalize p.bd k = x0 at *
    generalize p.rA k = x1 at *
    generalize p.rn k = x2 at *
    generalize p.rc k = x3 at *
    generalize p.sA k = x4 at *
    generalize p.sn k = x5 at *
    generalize p.sc k = x6 at *
    go_upto_region 11 with fail
    obtain ⟨e1, he1⟩ : ∃ zz, zz = wr.alloc (.cells #[.int .i64 x0, .slice x1 x2 x3, .slice x4 x5 x6] 49) := ⟨_, rfl⟩
    have HX1 : Hid (Blk e1 wr.heap.size 49 #[.int .i64 x0, .slice x1 x2 x3, .slice x4 x5 x6]) := Lib.hid (he1 ▸ Blk.new _ _ _)
    have HL1 : Hid (Below w.heap.size w e1) := Lib.hid (he1 ▸ HD.out.alloc hzr _)
    rw [← he1]
    clear he1 r0 r1 r2 HD
    have x00 : e1.cell? ⟨wr.heap.size, 0, none⟩ = some (.int .i64 x0) := HX1.out.cell 0
    go_wp2_with fail
    go_roundw
    case rel => exact ⟨k + 1, _, by omega, by go_num, rfl, HNX, HL1.out⟩
    case measure => simp [intOf]; omega

attribute [local go_sem] Oper.semAt_some
/-- what a stake forfeits -/
def ffV (s : StkF) (p : PastF) (ix : Nat → Nat) (i : Nat) : Int := min (s.dp i) (s.rt i * max (max ((p.rf (ix i) (s.pd i).toNat).1 - p.sv (ix i) (s.pd i).toNat) (p.sv (ix i) (s.pd i).toNat - (p.rf (ix i) (s.pd i).toNat).2)) 0)
def fzL (s : StkF) (p : PastF) (ix : Nat → Nat) : Nat → List (Nat × Int)
  | 0 => []
  | k + 1 => fzL s p ix k ++ [(k, ffV s p ix k)]
def fzv (x : Nat × Int) : Array Value := #[.int .i64 x.1, .int .i64 x.2]
theorem fzL_pre (s : StkF) (p : PastF) (ix : Nat → Nat) (k : Nat) : ∀ m, k < m → ∃ r, fzL s p ix m = fzL s p ix k ++ (k, ffV s p ix k) :: r
  | 0, h => absurd h (by omega)
  | m + 1, h => by
    by_cases e : k = m
    · subst e; exact ⟨[], rfl⟩
    · obtain ⟨r, hr⟩ := fzL_pre s p ix k m (by omega)
      exact ⟨r ++ [(m, ffV s p ix m)], by rw [fzL, hr]; simp⟩
theorem fzL_len (s : StkF) (p : PastF) (ix : Nat → Nat) : ∀ k, (fzL s p ix k).length = k
  | 0 => rfl
  | k + 1 => by rw [fzL, List.length_append, fzL_len s p ix k]; rfl
/-- each stake's body and period are there -/
def Fits (n m : Nat) (s : StkF) (p : PastF) (ix : Nat → Nat) : Prop := ∀ i, i < n → ix i < m ∧ s.bd i = p.bd (ix i) ∧ (s.pd i).toNat < p.rn (ix i)
/-- what a round must leave alone -/
def KpF (n₀ : Nat) (W W' : World) : Prop := Below n₀ W W' ∧ ∀ k t cs, (t = 66 ∨ t = 23) → Blk W k t cs → Blk W' k t cs
theorem KpF.refl {n₀ : Nat} (W : World) : KpF n₀ W W := ⟨Below.refl _ _, fun _ _ _ _ h => h⟩
theorem KpF.trans {n₀ : Nat} {A B C : World} (h : KpF n₀ A B) (k : KpF n₀ B C) : KpF n₀ A C := ⟨h.1.trans k.1, fun j t cs h1 h2 => k.2 j t cs h1 (h.2 j t cs h1 h2)⟩
theorem mul_in {r d : Int} (h1 : 0 ≤ r) (h2 : r ≤ 1048576) (h3 : 0 ≤ d) (h4 : d ≤ 1099511627776) : 0 ≤ r * d ∧ r * d ≤ 1152921504606846976 := by
  refine ⟨Int.mul_nonneg h1 h3, ?_⟩
  have := Int.mul_le_mul h2 h4 h3 (by decide)
  simpa using this

set_option maxRecDepth 100000 in
set_option maxHeartbeats 4000000 in
theorem forf_in (N l sb pb n₀ B n c m d : Nat) (A C : Option Addr) (s : StkF) (p : PastF) (ix : Nat → Nat) (hg : StGood n s) (hpg : PGood m p) (hri : Rises m p.bd) (hfit : Fits n m s p ix) (hBn : B ≤ n₀) (J : List (Nat × Int) → World → Prop)
    (W : World) (hn₀ : n₀ ≤ W.heap.size) (hJ : ∀ s A B, J s A → Below A.heap.size A B → J s B)
    (hY : ∀ pre x W1, J pre W1 → (∃ r, fzL s p ix n = pre ++ x :: r) → YieldAt Fence.wide (N - 1) Tryz.prog l (fzv x) W1 fun e W' => e = .returned (.bool true) ∧ J (pre ++ [x]) W' ∧ KpF n₀ W1 W')
    (ht : Blk W sb 66 #[.slice A n c]) (hb : Blk W pb 23 #[.slice C m d]) (hr : Rd W B A (n * 4) s.cells) (hp : PastRd W B C m p) (h0 : J [] W) :
    CallsIn Fence.wide N Tryz.prog 56 #[.func (.yield l) #[] #[], .pointer (some ⟨sb, 0, none⟩), .pointer (some ⟨pb, 0, none⟩)] W fun e W' => (∃ v, e = .returned v) ∧ ∃ ys, ys = fzL s p ix n ∧ J ys W' := by
  refine callsIn_of_wp Tryz.func56 rfl trivial ?_ rfl
  simp only [Tryz.ntmps56, List.size_toArray, List.length_cons, List.length_nil, Nat.reduceAdd, Nat.reduceSub, Array.replicate_succ, Array.replicate_zero, List.push_toArray, List.append_toArray, List.nil_append, List.cons_append]
  have HT := Lib.hid ht
  have HB := Lib.hid hb
  have HR := Lib.hid hr
  have HP := Lib.hid hp
  have HJ := Lib.hid hJ
  have HG := Lib.hid hg
  have HPG := Lib.hid hpg
  have HI := Lib.hid hri
  have HF := Lib.hid hfit
  have h256 : n ≤ 256 := hg.1
  have h256m : m ≤ 256 := hpg.1
  have c0 : W.cell? ⟨sb, 0, none⟩ = some (.slice A n c) := ht.cell 0
  clear ht hb hr hp hJ hg hpg hri hfit
  have HZ : Hid (W.heap.size ≤ W.heap.size) := Lib.hid (Nat.le_refl _)
  gi_wp2
  clear c0
  gi_loopw [13] (fun q wr => ∃ i : Nat, i ≤ n ∧ q = .int .i64 i ∧ Hid (Blk wr sb 66 #[.slice A n c]) ∧ Hid (Blk wr pb 23 #[.slice C m d]) ∧ Hid (Rd wr B A (n * 4) s.cells) ∧ Hid (PastRd wr B C m p) ∧ Hid (J (fzL s p ix i) wr) ∧ Hid (W.heap.size ≤ wr.heap.size)) (fun q _ => n - (intOf q).toNat)
  case atStart => exact ⟨0, Nat.zero_le _, rfl, HT, HB, HR, HP, Lib.hid h0, HZ⟩
  case round =>
    clear HT HB HR HP h0
    obtain ⟨i, hi, rfl, HT, HB, HR, HP, HJ1, HZ1⟩ := hrel
    by_cases hlt : ¬ i < n
    · have hlt' : ¬ (i : Int) < n := by omega
      have hin : i = n := by omega
      have HJ2 : Hid (J (fzL s p ix n) wr) := Lib.hid (hin ▸ HJ1.out)
      clear hin
      gi_wp2
      go_end0
      exact ⟨⟨_, rfl⟩, HJ2.out⟩
    have hlt : i < n := by omega
    have hlt' : (i : Int) < n := by omega
    obtain ⟨⟨a0, a0'⟩, ⟨a1, a1'⟩, ⟨a2, a2'⟩, a3, a3'⟩ := HG.out.2.1 i hlt
    obtain ⟨hj, hbj, hpk⟩ := HF.out i hlt
    obtain ⟨v, hv⟩ : ∃ v, v = ffV s p ix i := ⟨_, rfl⟩
    have HYK : Hid (∀ W1, J (fzL s p ix i) W1 → YieldAt Fence.wide (N - 1) Tryz.prog l #[.int .i64 i, .int .i64 v] W1 fun e W' => e = .returned (.bool true) ∧ J (fzL s p ix (i + 1)) W' ∧ KpF n₀ W1 W') := Lib.hid fun W1 h => by
      have h1 := hY _ (i, ffV s p ix i) W1 h (fzL_pre s p ix i n hlt)
      rw [fzL, hv]
      exact h1
    unfold ffV at hv
    obtain ⟨j, hjj⟩ : ∃ j, j = ix i := ⟨_, rfl⟩
    rw [← hjj] at hv hj hbj hpk
    clear hjj
    obtain ⟨pk, hpp⟩ : ∃ pk : Nat, s.pd i = (pk : Int) := ⟨(s.pd i).toNat, by omega⟩
    rw [hpp, Int.toNat_natCast] at hv hpk
    obtain ⟨⟨hbd1, hbd2⟩, ⟨hrn1, hrn2⟩, hsn, hrf, hsv⟩ := HPG.out.2 j hj
    obtain ⟨q1, q2, q3⟩ := hrf pk hpk
    obtain ⟨q4, q5⟩ := hsv pk (by omega)
    have hsk : pk < p.sn j := by omega
    clear hrf hsv hrn1 hrn2 hsn
    have HBJ := Lib.hid hbj
    have HBIN : Hid (∀ W' : World, Rd W' B C (m * 3) p.cells → B ≤ W'.heap.size → Calls Tryz.prog 57 #[.slice C m d, .int .i64 (s.bd i), .func (.func 58) #[] #[]] W' fun e w' => e = .returned (.tuple #[.int .i64 j, .bool true]) ∧ Below W'.heap.size W' w') := Lib.hid fun W' h hB => bin_57 C m d B j (s.bd i) p W' h256m hB h HI.out (fun t ht => (HPG.out.2 t ht).1) hj hbj
    clear hbj
    obtain ⟨ab, o, rfl, _, s0, s1, s2, s3⟩ := stk_at HR.out hlt
    rw [hpp] at s1
    clear hpp hbd1 hbd2
    generalize s.bd i = x0 at *
    generalize s.dp i = x2 at *
    generalize s.rt i = x3 at *
    gi_upto_region 3 with fail
    obtain ⟨e1, he1⟩ : ∃ zz, zz = wr.alloc (.cells #[.int .i64 x0, .int .i64 pk, .int .i64 x2, .int .i64 x3] 65) := ⟨_, rfl⟩
    have HX1 : Hid (Blk e1 wr.heap.size 65 #[.int .i64 x0, .int .i64 pk, .int .i64 x2, .int .i64 x3]) := Lib.hid (he1 ▸ Blk.new _ _ _)
    have HE1 : Below wr.heap.size wr e1 := he1 ▸ below_alloc _ _
    have HT1 := Lib.hid (HT.out.below HE1 HT.out.lt)
    have HB1 := Lib.hid (HB.out.below HE1 HB.out.lt)
    have HR1 := Lib.hid (HR.out.below (HE1.mono (by have := HZ1.out; omega)))
    have HP1 := Lib.hid (HP.out.below (HE1.mono (by have := HZ1.out; omega)))
    have HJ2 := Lib.hid (HJ.out _ _ _ HJ1.out HE1)
    have HZ2 : Hid (W.heap.size ≤ e1.heap.size) := Lib.hid (Nat.le_trans HZ1.out HE1.size)
    rw [← he1]
    clear he1 HE1 HT HB HR HP HJ1 s0 s1 s2 s3
    generalize wr.heap.size = xb at *
    clear HZ1
    clear wr
    have x00 : e1.cell? ⟨xb, 0, none⟩ = some (.int .i64 x0) := HX1.out.cell 0
    have b0 : e1.cell? ⟨pb, 0, none⟩ = some (.slice C m d) := HB1.out.cell 0
    gi_wp2
    refine ⟨trivial, fun h => (by cases h), callsIn_wide.2 ((HBIN.out e1 HP1.out.1 (by have := HZ2.out; omega)).mono ?_)⟩
    rintro e w2 ⟨rfl, hb⟩
    have HT2 := Lib.hid (HT1.out.below hb HT1.out.lt)
    have HB2 := Lib.hid (HB1.out.below hb HB1.out.lt)
    have HX2 := Lib.hid (HX1.out.below hb HX1.out.lt)
    have HR2 := Lib.hid (HR1.out.below (hb.mono (by have := HZ2.out; omega)))
    have HP2 := Lib.hid (HP1.out.below (hb.mono (by have := HZ2.out; omega)))
    have HJ3 := Lib.hid (HJ.out _ _ _ HJ2.out hb)
    have HZ3 : Hid (W.heap.size ≤ w2.heap.size) := Lib.hid (Nat.le_trans HZ2.out hb.size)
    clear hb x00 b0 HT1 HB1 HX1 HR1 HP1 HJ2 HZ2 HBIN
    clear e1
    have hcc := HP2.out.1
    unfold PastF.cells at hcc
    obtain ⟨cb, co, rfl, _, p0, p1, p2⟩ := pcc_at hcc hj
    obtain ⟨⟨hr1, _⟩, hs1, _⟩ := HP2.out.2 j hj
    obtain ⟨rb, ro, hRA, hrbB, r0, r1⟩ := rng_at hr1 hpk
    obtain ⟨sb', so, hSA, hsbB, hsc⟩ := hs1 (by omega)
    have s0 : w2.cell? ⟨sb', so + pk, none⟩ = some (.int .i64 (p.sv j pk)) := hsc pk hsk
    rw [hRA] at p1
    rw [hSA] at p2
    clear hr1 hs1 hsc hcc hRA hSA
    have p2' : w2.cell? ⟨cb, co + j * 3 + 1 + 1, none⟩ = _ := p2
    have b0 : w2.cell? ⟨pb, 0, none⟩ = some (.slice (some ⟨cb, co, none⟩) m d) := HB2.out.cell 0
    have x00 : w2.cell? ⟨xb, 0, none⟩ = some (.int .i64 x0) := HX2.out.cell 0
    have x01 : w2.cell? ⟨xb, 1, none⟩ = some (.int .i64 pk) := HX2.out.cell 1
    have x02 : w2.cell? ⟨xb, 2, none⟩ = some (.int .i64 x2) := HX2.out.cell 2
    have x03 : w2.cell? ⟨xb, 3, none⟩ = some (.int .i64 x3) := HX2.out.cell 3
    have x02' : w2.cell? ⟨xb, 1 + 1, none⟩ = some (.int .i64 x2) := HX2.out.cell 2
    have x03' : w2.cell? ⟨xb, 2 + 1, none⟩ = some (.int .i64 x3) := HX2.out.cell 3
    have hpk' : (pk : Int) < (p.rn j : Int) := by omega
    have hsk' : (pk : Int) < (p.sn j : Int) := by omega
    have hj' : (j : Int) < (m : Int) := by omega
    generalize (p.rf j pk).1 = lo at *
    generalize (p.rf j pk).2 = hi' at *
    generalize p.sv j pk = se at *
    generalize p.rn j = yn at *
    generalize p.sn j = zn at *
    generalize p.rc j = yc at *
    generalize p.sc j = zc at *
    generalize p.bd j = yb at *
    gi_upto_region 5 with fail
    refine wpIn_wide.2 ?_
    go_region
    have hdr : Below w2.heap.size w2 w2.drew := (Below.refl _ _).drew
    obtain ⟨e3, he3⟩ : ∃ zz, zz = w2.drew := ⟨_, rfl⟩
    have HT3 : Hid (Blk e3 sb 66 #[.slice (some ⟨ab, o, none⟩) n c]) := Lib.hid (he3 ▸ HT2.out.below hdr HT2.out.lt)
    have HB3 : Hid (Blk e3 pb 23 #[.slice (some ⟨cb, co, none⟩) m d]) := Lib.hid (he3 ▸ HB2.out.below hdr HB2.out.lt)
    have HX3 : Hid (Blk e3 xb 65 #[.int .i64 x0, .int .i64 pk, .int .i64 x2, .int .i64 x3]) := Lib.hid (he3 ▸ HX2.out.below hdr HX2.out.lt)
    have HR3 : Hid (Rd e3 B (some ⟨ab, o, none⟩) (n * 4) s.cells) := Lib.hid (he3 ▸ HR2.out.below (hdr.mono (by have := HZ3.out; omega)))
    have HP3 : Hid (PastRd e3 B (some ⟨cb, co, none⟩) m p) := Lib.hid (he3 ▸ HP2.out.below (hdr.mono (by have := HZ3.out; omega)))
    have HJ4 : Hid (J (fzL s p ix i) e3) := Lib.hid (he3 ▸ HJ.out _ _ _ HJ3.out hdr)
    have HZ4 : Hid (W.heap.size ≤ e3.heap.size) := Lib.hid (he3 ▸ Nat.le_trans HZ3.out hdr.size)
    have key : ∀ a, w2.cell? a = e3.cell? a := fun a => by rw [he3]; rfl
    rw [key] at p0 p1 p2 p2' r0 r1 s0
    clear key
    rw [← he3]
    clear he3 hdr HT2 HB2 HX2 HR2 HP2 HJ3 HZ3 b0 x00 x01 x02 x03 x02' x03'
    clear w2
    have b0 : e3.cell? ⟨pb, 0, none⟩ = some (.slice (some ⟨cb, co, none⟩) m d) := HB3.out.cell 0
    have x00 : e3.cell? ⟨xb, 0, none⟩ = some (.int .i64 x0) := HX3.out.cell 0
    have x01 : e3.cell? ⟨xb, 1, none⟩ = some (.int .i64 pk) := HX3.out.cell 1
    gi_upto_region 6 with fail
    obtain ⟨SS, hSS⟩ : ∃ SS : World → Prop, SS = fun w' => w'.cell? ⟨pb, 0, none⟩ = some (.slice (some ⟨cb, co, none⟩) m d) ∧ w'.cell? ⟨xb, 1, none⟩ = some (.int .i64 pk) ∧ w'.cell? ⟨cb, co + j * 3 + 1, none⟩ = some (.slice (some ⟨rb, ro, none⟩) yn yc) ∧ w'.cell? ⟨cb, co + j * 3 + 2, none⟩ = some (.slice (some ⟨sb', so, none⟩) zn zc) ∧ w'.cell? ⟨rb, ro + pk * 2, none⟩ = some (.int .i64 lo) ∧ w'.cell? ⟨rb, ro + pk * 2 + 1, none⟩ = some (.int .i64 hi') ∧ w'.cell? ⟨sb', so + pk, none⟩ = some (.int .i64 se) := ⟨_, rfl⟩
    have HS0 : Hid (SS e3) := Lib.hid (by rw [hSS]; exact ⟨b0, x01, p1, p2, r0, r1, s0⟩)
    have HSB : Hid (∀ o, SS (e3.alloc o)) := Lib.hid fun o => by
      have ka : ∀ a v, e3.cell? a = some v → (e3.alloc o).cell? a = some v := fun a v h => (World.cell?_alloc_lt e3 _ a (World.block_lt_of_cell? e3 _ h)).trans h
      rw [hSS]
      exact ⟨ka _ _ b0, ka _ _ x01, ka _ _ p1, ka _ _ p2, ka _ _ r0, ka _ _ r1, ka _ _ s0⟩
    have HSD : Hid (∀ w', SS w' → SS w'.drew) := Lib.hid fun w' h => by rw [hSS] at h ⊢; exact h
    have HSE := Lib.hid hSS
    clear hSS p2'
    refine wpIn_wide.2 ?_
    refine wp_region_tail (fun _ => True) SS 20 20 (by kernel_rfl) ⟨trivial, HSD.out _ HS0.out⟩ (fun hHeld => ?_)
    refine wpAnyT_takeB (i := 0) (v := .slice (some ⟨cb, co, none⟩) m d) rfl (by kernel_rfl) (by kernel_rfl) (by kernel_rfl) (by kernel_rfl) (by kernel_rfl) (by decide) (by decide) (fun _ _ _ h => h) (Or.inl ⟨by kernel_rfl, ?_⟩) hHeld ?_
    · intro w' hSw
      rw [HSE.out] at hSw
      obtain ⟨z0, z1, z2, z3, z4, z5, z6⟩ := hSw
      go_simp
    refine wpAnyT_takeB (i := 1) (v := .int .i64 j) rfl (by kernel_rfl) (by kernel_rfl) (by kernel_rfl) (by kernel_rfl) (by kernel_rfl) (by decide) (by decide) (fun _ _ _ h => h) (Or.inl ⟨by kernel_rfl, ?_⟩) hHeld ?_
    · intro w' hSw
      rw [HSE.out] at hSw
      obtain ⟨z0, z1, z2, z3, z4, z5, z6⟩ := hSw
      go_simp
    simp only [Act.put]
    refine wpAnyT_takeB (i := 2) (v := .pointer (some ⟨cb, co + j * 3, none⟩)) rfl (by kernel_rfl) (by kernel_rfl) (by kernel_rfl) (by kernel_rfl) (by kernel_rfl) (by decide) (by decide) (fun _ _ _ h => h) (Or.inl ⟨by kernel_rfl, ?_⟩) hHeld ?_
    · intro w' hSw
      rw [HSE.out] at hSw
      obtain ⟨z0, z1, z2, z3, z4, z5, z6⟩ := hSw
      go_simp
    refine wpAnyT_takeB (i := 3) (v := .pointer (some ⟨cb, co + j * 3 + 1, none⟩)) rfl (by kernel_rfl) (by kernel_rfl) (by kernel_rfl) (by kernel_rfl) (by kernel_rfl) (by decide) (by decide) (fun _ _ _ h => h) (Or.inl ⟨by kernel_rfl, ?_⟩) hHeld ?_
    · intro w' hSw
      rw [HSE.out] at hSw
      obtain ⟨z0, z1, z2, z3, z4, z5, z6⟩ := hSw
      go_simp
    simp only [Act.put]
    refine wpAnyT_takeB (i := 4) (v := .slice (some ⟨rb, ro, none⟩) yn yc) rfl (by kernel_rfl) (by kernel_rfl) (by kernel_rfl) (by kernel_rfl) (by kernel_rfl) (by decide) (by decide) (fun _ _ _ h => h) (Or.inl ⟨by kernel_rfl, ?_⟩) hHeld ?_
    · intro w' hSw
      rw [HSE.out] at hSw
      obtain ⟨z0, z1, z2, z3, z4, z5, z6⟩ := hSw
      go_simp
    refine wpAnyT_takeB (i := 5) (v := .pointer (some ⟨xb, 1, none⟩)) rfl (by kernel_rfl) (by kernel_rfl) (by kernel_rfl) (by kernel_rfl) (by kernel_rfl) (by decide) (by decide) (fun _ _ _ h => h) (Or.inl ⟨by kernel_rfl, ?_⟩) hHeld ?_
    · intro w' hSw
      rw [HSE.out] at hSw
      obtain ⟨z0, z1, z2, z3, z4, z5, z6⟩ := hSw
      go_simp
    simp only [Act.put]
    refine wpAnyT_takeB (i := 6) (v := .int .i64 pk) rfl (by kernel_rfl) (by kernel_rfl) (by kernel_rfl) (by kernel_rfl) (by kernel_rfl) (by decide) (by decide) (fun _ _ _ h => h) (Or.inl ⟨by kernel_rfl, ?_⟩) hHeld ?_
    · intro w' hSw
      rw [HSE.out] at hSw
      obtain ⟨z0, z1, z2, z3, z4, z5, z6⟩ := hSw
      go_simp
    refine wpAnyT_takeB (i := 7) (v := .pointer (some ⟨rb, ro + pk * 2, none⟩)) rfl (by kernel_rfl) (by kernel_rfl) (by kernel_rfl) (by kernel_rfl) (by kernel_rfl) (by decide) (by decide) (fun _ _ _ h => h) (Or.inl ⟨by kernel_rfl, ?_⟩) hHeld ?_
    · intro w' hSw
      rw [HSE.out] at hSw
      obtain ⟨z0, z1, z2, z3, z4, z5, z6⟩ := hSw
      go_simp
    simp only [Act.put]
    refine wpAnyT_takeB (i := 8) (v := .agg #[.int .i64 lo, .int .i64 hi']) rfl (by kernel_rfl) (by kernel_rfl) (by kernel_rfl) (by kernel_rfl) (by kernel_rfl) (by decide) (by decide) (fun _ _ _ h => h) (Or.inl ⟨by kernel_rfl, ?_⟩) hHeld ?_
    · intro w' hSw
      rw [HSE.out] at hSw
      obtain ⟨z0, z1, z2, z3, z4, z5, z6⟩ := hSw
      go_simp
    refine wpAnyT_takeB (i := 9) (v := .slice (some ⟨cb, co, none⟩) m d) rfl (by kernel_rfl) (by kernel_rfl) (by kernel_rfl) (by kernel_rfl) (by kernel_rfl) (by decide) (by decide) (fun _ _ _ h => h) (Or.inl ⟨by kernel_rfl, ?_⟩) hHeld ?_
    · intro w' hSw
      rw [HSE.out] at hSw
      obtain ⟨z0, z1, z2, z3, z4, z5, z6⟩ := hSw
      go_simp
    simp only [Act.put]
    refine wpAnyT_takeB (i := 10) (v := .int .i64 j) rfl (by kernel_rfl) (by kernel_rfl) (by kernel_rfl) (by kernel_rfl) (by kernel_rfl) (by decide) (by decide) (fun _ _ _ h => h) (Or.inl ⟨by kernel_rfl, ?_⟩) hHeld ?_
    · intro w' hSw
      rw [HSE.out] at hSw
      obtain ⟨z0, z1, z2, z3, z4, z5, z6⟩ := hSw
      go_simp
    refine wpAnyT_takeB (i := 11) (v := .pointer (some ⟨cb, co + j * 3, none⟩)) rfl (by kernel_rfl) (by kernel_rfl) (by kernel_rfl) (by kernel_rfl) (by kernel_rfl) (by decide) (by decide) (fun _ _ _ h => h) (Or.inl ⟨by kernel_rfl, ?_⟩) hHeld ?_
    · intro w' hSw
      rw [HSE.out] at hSw
      obtain ⟨z0, z1, z2, z3, z4, z5, z6⟩ := hSw
      go_simp
    simp only [Act.put]
    refine wpAnyT_takeB (i := 12) (v := .pointer (some ⟨cb, co + j * 3 + 2, none⟩)) rfl (by kernel_rfl) (by kernel_rfl) (by kernel_rfl) (by kernel_rfl) (by kernel_rfl) (by decide) (by decide) (fun _ _ _ h => h) (Or.inl ⟨by kernel_rfl, ?_⟩) hHeld ?_
    · intro w' hSw
      rw [HSE.out] at hSw
      obtain ⟨z0, z1, z2, z3, z4, z5, z6⟩ := hSw
      go_simp
    refine wpAnyT_takeB (i := 13) (v := .slice (some ⟨sb', so, none⟩) zn zc) rfl (by kernel_rfl) (by kernel_rfl) (by kernel_rfl) (by kernel_rfl) (by kernel_rfl) (by decide) (by decide) (fun _ _ _ h => h) (Or.inl ⟨by kernel_rfl, ?_⟩) hHeld ?_
    · intro w' hSw
      rw [HSE.out] at hSw
      obtain ⟨z0, z1, z2, z3, z4, z5, z6⟩ := hSw
      go_simp
    simp only [Act.put]
    refine wpAnyT_takeB (i := 14) (v := .pointer (some ⟨xb, 1, none⟩)) rfl (by kernel_rfl) (by kernel_rfl) (by kernel_rfl) (by kernel_rfl) (by kernel_rfl) (by decide) (by decide) (fun _ _ _ h => h) (Or.inl ⟨by kernel_rfl, ?_⟩) hHeld ?_
    · intro w' hSw
      rw [HSE.out] at hSw
      obtain ⟨z0, z1, z2, z3, z4, z5, z6⟩ := hSw
      go_simp
    refine wpAnyT_takeB (i := 15) (v := .int .i64 pk) rfl (by kernel_rfl) (by kernel_rfl) (by kernel_rfl) (by kernel_rfl) (by kernel_rfl) (by decide) (by decide) (fun _ _ _ h => h) (Or.inl ⟨by kernel_rfl, ?_⟩) hHeld ?_
    · intro w' hSw
      rw [HSE.out] at hSw
      obtain ⟨z0, z1, z2, z3, z4, z5, z6⟩ := hSw
      go_simp
    simp only [Act.put]
    refine wpAnyT_takeB (i := 16) (v := .pointer (some ⟨sb', so + pk, none⟩)) rfl (by kernel_rfl) (by kernel_rfl) (by kernel_rfl) (by kernel_rfl) (by kernel_rfl) (by decide) (by decide) (fun _ _ _ h => h) (Or.inl ⟨by kernel_rfl, ?_⟩) hHeld ?_
    · intro w' hSw
      rw [HSE.out] at hSw
      obtain ⟨z0, z1, z2, z3, z4, z5, z6⟩ := hSw
      go_simp
    refine wpAnyT_takeB (i := 17) (v := .int .i64 se) rfl (by kernel_rfl) (by kernel_rfl) (by kernel_rfl) (by kernel_rfl) (by kernel_rfl) (by decide) (by decide) (fun _ _ _ h => h) (Or.inl ⟨by kernel_rfl, ?_⟩) hHeld ?_
    · intro w' hSw
      rw [HSE.out] at hSw
      obtain ⟨z0, z1, z2, z3, z4, z5, z6⟩ := hSw
      go_simp
    simp only [Act.put]
    refine wpAnyT_one (T := SS) (i := 18) (by kernel_rfl) rfl (fun _ h => ⟨fun _ => trivial, fun _ => h⟩) (fun K hK => ?_)
    go_simp
    refine hK.out _ _ (HSD.out _ (HSB.out _)) (fun hx => ?_)
    clear hK K hx
    refine wpAnyT_one (T := SS) (i := 19) (by kernel_rfl) rfl (fun _ h => ⟨fun _ => trivial, fun _ => h⟩) (fun K hK => ?_)
    go_simp
    refine hK.out _ _ (HSD.out _ (HSB.out _)) (fun hx => ?_)
    clear hK K hx
    refine wpAnyT_one (T := fun _ => True) (i := 20) (by kernel_rfl) rfl (Ob.last (by kernel_rfl) (by kernel_rfl)) (fun K hK => ?_)
    go_simp
    refine hK.out _ _ trivial (fun hx => ?_)
    clear hK K hx
    refine wpAnyT_done (by kernel_rfl) ?_
    obtain ⟨e4, he4⟩ : ∃ zz, zz = (e3.alloc (.cells #[.int .i64 lo, .int .i64 hi'] 53)).drew := ⟨_, rfl⟩
    have HE4 : Below e3.heap.size e3 e4 := he4 ▸ (below_alloc _ _).drew
    have HY4 : Hid (Blk e4 e3.heap.size 53 #[.int .i64 lo, .int .i64 hi']) := Lib.hid (he4 ▸ (Blk.new _ _ _).drewN 1)
    have HT4 := Lib.hid (HT3.out.below HE4 HT3.out.lt)
    have HB4 := Lib.hid (HB3.out.below HE4 HB3.out.lt)
    have HX4 := Lib.hid (HX3.out.below HE4 HX3.out.lt)
    have HR4 := Lib.hid (HR3.out.below (HE4.mono (by have := HZ4.out; omega)))
    have HP4 := Lib.hid (HP3.out.below (HE4.mono (by have := HZ4.out; omega)))
    have HJ5 := Lib.hid (HJ.out _ _ _ HJ4.out HE4)
    have HZ5 : Hid (W.heap.size ≤ e4.heap.size) := Lib.hid (Nat.le_trans HZ4.out HE4.size)
    rw [← he4]
    clear he4 HE4 HT3 HB3 HX3 HR3 HP3 HJ4 HZ4 HS0 HSB HSD HSE SS hHeld b0 x00 x01 p0 p1 p2 r0 r1 s0
    generalize e3.heap.size = yb2 at *
    clear e3
    have x02 : e4.cell? ⟨xb, 2, none⟩ = some (.int .i64 x2) := HX4.out.cell 2
    have x03 : e4.cell? ⟨xb, 3, none⟩ = some (.int .i64 x3) := HX4.out.cell 3
    have y0 : e4.cell? ⟨yb2, 0, none⟩ = some (.int .i64 lo) := HY4.out.cell 0
    have y1 : e4.cell? ⟨yb2, 1, none⟩ = some (.int .i64 hi') := HY4.out.cell 1
    obtain ⟨dd, hdd⟩ : ∃ dd, dd = max (max (lo - se) (se - hi')) 0 := ⟨_, rfl⟩
    rw [← hdd] at hv
    have hmx := max3_at (P := Tryz.prog) (ts := #[3, 3, 3]) (ty := 3) (i := lo - se) (j := se - hi') (l := 0) (m := dd) hdd
    have hw1 : IntKind.i64.wrap (lo - se) = lo - se := IntWalk.i64_in _ ⟨by omega, by omega⟩
    have hw2 : IntKind.i64.wrap (se - hi') = se - hi' := IntWalk.i64_in _ ⟨by omega, by omega⟩
    obtain ⟨hm1, hm2⟩ := mul_in a3 a3' (d := dd) (by omega) (by omega)
    have hw3 : IntKind.i64.wrap (x3 * dd) = x3 * dd := IntWalk.i64_in _ ⟨by omega, by omega⟩
    have hw4 : wrap64 (x3 * dd) = x3 * dd := IntWalk.wrap64_in _ ⟨by omega, by omega⟩
    obtain ⟨ee, hee⟩ : ∃ ee, ee = x3 * dd := ⟨_, rfl⟩
    replace hw3 := hw3.trans hee.symm
    replace hw4 := hw4.trans hee.symm
    rw [← hee] at hv
    obtain ⟨e5, he5⟩ : ∃ zz, zz = e4.alloc (.cells #[.int .i64 ee] 3) := ⟨_, rfl⟩
    have HLE : Hid (Calls Tryz.prog 59 #[.int .i64 x2, .slice (some ⟨e4.heap.size, 0, none⟩) 1 1] e5 fun e w' => e = .returned (.int .i64 v) ∧ e5 = w') := Lib.hid (by
      rw [hv, he5]
      exact least_59 x2 _ 1 (e4.heap.size + 1) (fun _ => ee) _ (rd_new e4 #[.int .i64 ee] 3 _ (fun j hj => by
        have : j = 0 := by simpa using hj
        subst this
        rfl)))
    have HE5 : Below e4.heap.size e4 e5 := he5 ▸ below_alloc _ _
    have HT5 := Lib.hid (HT4.out.below HE5 HT4.out.lt)
    have HB5 := Lib.hid (HB4.out.below HE5 HB4.out.lt)
    have HR5 := Lib.hid (HR4.out.below (HE5.mono (by have := HZ5.out; omega)))
    have HP5 := Lib.hid (HP4.out.below (HE5.mono (by have := HZ5.out; omega)))
    have HJ6 := Lib.hid (HJ.out _ _ _ HJ5.out HE5)
    have HZ6 : Hid (W.heap.size ≤ e5.heap.size) := Lib.hid (Nat.le_trans HZ5.out HE5.size)
    have HE5' := Lib.hid he5
    clear hdd hee HE5 he5 hv
    gi_upto_region 7 with fail
    gi_wp2
    rw [← HE5'.out]
    refine ⟨trivial, fun h => (by cases h), callsIn_wide.2 (HLE.out.mono ?_)⟩
    rintro e u ⟨rfl, rfl⟩
    clear HLE HE5' HX4 HY4 HT4 HB4 HR4 HP4 HJ5 HZ5 x02 x03 y0 y1
    obtain ⟨fn, tmps, assign, body, hy, hR⟩ := HYK.out e5 HJ6.out
    gi_wp2
    refine ⟨fun h => (by cases h), hR.mono ?_⟩
    rintro e w6 ⟨rfl, hj6, hk6⟩
    have HJ7 := Lib.hid hj6
    have HT6 : Hid (Blk w6 sb 66 #[.slice (some ⟨ab, o, none⟩) n c]) := Lib.hid (hk6.2 _ _ _ (.inl rfl) HT5.out)
    have HB6 : Hid (Blk w6 pb 23 #[.slice (some ⟨cb, co, none⟩) m d]) := Lib.hid (hk6.2 _ _ _ (.inr rfl) HB5.out)
    have HR6 := Lib.hid (HR5.out.below (hk6.1.mono hBn))
    have HP6 := Lib.hid (HP5.out.below (hk6.1.mono hBn))
    have HZ7 : Hid (W.heap.size ≤ w6.heap.size) := Lib.hid (Nat.le_trans HZ6.out hk6.1.size)
    clear hj6 hk6 hR hy HT5 HB5 HR5 HP5 HJ6 HZ6
    gi_wp2
    go_roundw
    case rel => exact ⟨i + 1, by omega, by go_num, HT6, HB6, HR6, HP6, HJ7, HZ7⟩
    case measure => simp [intOf]; omega
end Go.Proofs.YtonkjnkokikpgaaGreat
namespace Go.Proofs.YtonkjnkokikpgaaGreat
open Go.RowKit

attribute [local go_sem] Oper.semAt_some
theorem forf_seq (N sb pb n₀ B n c m d : Nat) (A C : Option Addr) (s : StkF) (p : PastF) (ix : Nat → Nat) (hg : StGood n s) (hpg : PGood m p) (hri : Rises m p.bd) (hfit : Fits n m s p ix) (hBn : B ≤ n₀) (w : World) (hn₀ : n₀ ≤ w.heap.size)
    (ht : Blk w sb 66 #[.slice A n c]) (hb : Blk w pb 23 #[.slice C m d]) (hr : Rd w B A (n * 4) s.cells) (hp : PastRd w B C m p) :
    SeqM Fence.wide N Tryz.prog 56 #[.pointer (some ⟨sb, 0, none⟩), .pointer (some ⟨pb, 0, none⟩)] fzv (KpF n₀) (fun ys => ys = fzL s p ix n) (fun pre x => ∃ r, fzL s p ix n = pre ++ x :: r) w := fun l J W hW hJ hY h0 =>
  forf_in N l sb pb n₀ B n c m d A C s p ix hg hpg hri hfit hBn J W (by have := hW.size; omega) hJ hY (ht.below hW ht.lt) (hb.below hW hb.lt) (hr.below (hW.mono (by omega))) (hp.below (hW.mono (by omega))) h0
set_option maxRecDepth 100000 in
theorem forfeits_39 (A C : Option Addr) (n c m d : Nat) (w : World) :
    Calls Tryz.prog 39 #[.slice A n c, .slice C m d] w fun e w' => e = .returned (.func (.func 56) #[] #[.pointer (some ⟨w.heap.size, 0, none⟩), .pointer (some ⟨w.heap.size + 1, 0, none⟩)]) ∧
      Blk w' w.heap.size 66 #[.slice A n c] ∧ Blk w' (w.heap.size + 1) 23 #[.slice C m d] ∧ Below w.heap.size w w' := by
  go_enter Tryz.func39, Tryz.ntmps39
  go_wp2_with fail
  go_ret
  refine ⟨rfl, (Blk.new _ _ _).alloc _, ?_, ?_⟩
  · have h := Blk.new (w.alloc (.cells #[.slice A n c] 66)) 23 #[.slice C m d]
    rwa [World.size_alloc] at h
  · exact (below_alloc _ _).alloc (by simp) _
theorem KpF.put {n₀ : Nat} {W : World} {l : Nat} {o o' : Obj} (hl : n₀ ≤ l) (h : W.heap[l]? = some o) (ho : o.isCells = false) : KpF n₀ W (W.putObj l o') :=
  ⟨below_putObj (Below.refl _ _) hl _, fun k t cs _ hb => blk_putObj hb (fun e => by
    subst e
    unfold Blk at hb
    rw [h] at hb
    cases hb
    cases ho) _⟩
/-- what is found at i -/
def rsV (i : Nat) (pre : List (Nat × Int)) : Int := pre.foldl (fun a x => if x.1 = i then x.2 else a) 0
theorem rsV_snoc (i : Nat) (pre : List (Nat × Int)) (x : Nat × Int) : rsV i (pre ++ [x]) = if x.1 = i then x.2 else rsV i pre := by simp [rsV]
theorem rsV_fz (s : StkF) (p : PastF) (ix : Nat → Nat) (i : Nat) : ∀ k, rsV i (fzL s p ix k) = if i < k then ffV s p ix i else 0
  | 0 => by simp [fzL, rsV]
  | k + 1 => by
    rw [fzL, rsV_snoc, rsV_fz s p ix i k]
    by_cases h : k = i
    · subst h; simp
    · rw [if_neg h]
      by_cases h2 : i < k
      · rw [if_pos h2, if_pos (by omega)]
      · rw [if_neg h2, if_neg (by omega)]
/-- between two rounds of the loop of Forfeit -/
def InZ (n₀ rb ib H i : Nat) (w0 : World) (xs : List (Nat × Int)) (W : World) : Prop :=
  Blk W rb 3 #[.int .i64 (rsV i xs)] ∧ Blk W ib 3 #[.int .i64 i] ∧ Below n₀ w0 W ∧ H ≤ W.heap.size
theorem InZ.below' {n₀ rb ib H i : Nat} {w0 : World} (h0 : n₀ ≤ H) (h1 : rb < H) (h2 : ib < H) : ∀ s X Y, InZ n₀ rb ib H i w0 s X → Below H X Y → InZ n₀ rb ib H i w0 s Y := fun _ _ _ hs hb =>
  ⟨hs.1.below hb h1, hs.2.1.below hb h2, hs.2.2.1.trans (hb.mono h0), Nat.le_trans hs.2.2.2 hb.size⟩
theorem results_int3 {fn : Func} {p u : Tmp} (h : fn.results = #[.cell p 3, .tmp u]) (tmps : Array Value) (w : World) (g : Nat) (t : TypeId) (v : Value)
    (hp : tmps.getD p undef = .pointer (some ⟨g, 0, none⟩)) (hg : Blk w g t #[v]) :
    (results fn tmps).run Tryz.prog w = .ok (.tuple #[v, tmps.getD u undef]) w := by
  have hp' : tmps[p]?.getD undef = .pointer (some ⟨g, 0, none⟩) := by simpa using hp
  have hc : w.cell? ⟨g, 0, none⟩ = some v := hg.cell 0
  rw [results_cell_tmp h]
  simp [hp', asAddr, loadVar, hc, go_sem]

set_option maxRecDepth 100000 in
set_option maxHeartbeats 4000000 in
theorem Forfeit_15 (A C : Option Addr) (n c m d B i : Nat) (s : StkF) (p : PastF) (ix : Nat → Nat) (w : World) (hi : i < n) (hB : B ≤ w.heap.size) (hr : Rd w B A (n * 4) s.cells) (hg : StGood n s) (hp : PastRd w B C m p) (hpg : PGood m p) (hri : Rises m p.bd) (hfit : Fits n m s p ix) :
    Calls Tryz.prog 15 #[.slice A n c, .slice C m d, .int .i64 i] w fun e w' => e = .returned (.tuple #[.int .i64 (ffV s p ix i), .int .i64 0]) ∧ Below w.heap.size w w' := by
  have HR := Lib.hid hr
  have HP := Lib.hid hp
  have HG := Lib.hid hg
  have HPG := Lib.hid hpg
  have HRI := Lib.hid hri
  have HFIT := Lib.hid hfit
  have h256 : n ≤ 256 := hg.1
  clear hr hp hg hpg hri hfit
  refine (callsIn_wide (n := 3)).1 (callsIn_of_wp_marks Tryz.func15 rfl trivial (wpIn_wide.2 ?_))
  simp only [Tryz.ntmps15, List.size_toArray, List.length_cons, List.length_nil, Nat.reduceAdd, Nat.reduceSub, Array.replicate_succ, Array.replicate_zero, List.push_toArray, List.append_toArray, List.nil_append, List.cons_append]
  go_upto_region 1 with fail
  obtain ⟨w3, hw3⟩ : ∃ zz, zz = (w.alloc (.cells #[.int .i64 i] 3)).alloc (.cells #[.int .i64 0] 3) := ⟨_, rfl⟩
  have HI3 : Hid (Blk w3 w.heap.size 3 #[.int .i64 i]) := Lib.hid (hw3 ▸ (Blk.new _ _ _).alloc _)
  have HL3 : Hid (Blk w3 (w.heap.size + 1) 3 #[.int .i64 0]) := Lib.hid (by have := Blk.new (w.alloc (.cells #[.int .i64 i] 3)) 3 #[.int .i64 0]; rw [World.size_alloc] at this; rw [hw3]; exact this)
  have HB3 : Hid (Below w.heap.size w w3) := Lib.hid (by rw [hw3]; exact (below_alloc _ _).alloc (by simp) _)
  rw [← hw3]
  clear hw3
  go_wp2_with fail
  refine (check_37 A C n c m d B s p w3 (by have := HB3.out.size; omega) (HR.out.below (HB3.out.mono hB)) HG.out (HP.out.below (HB3.out.mono hB)) HPG.out HRI.out).mono ?_
  rintro e w4 ⟨rfl, hb4⟩
  have HB4 := Lib.hid (HB3.out.trans (hb4.mono HB3.out.size))
  have HI4 := Lib.hid (HI3.out.below hb4 HI3.out.lt)
  have HL4 := Lib.hid (HL3.out.below hb4 HL3.out.lt)
  clear hb4 HB3 HI3 HL3
  have hs4 := HL4.out.lt
  have ci : w4.cell? ⟨w.heap.size, 0, none⟩ = some (.int .i64 i) := HI4.out.cell 0
  have hwn : IntKind.i64.wrap ((n : Int) - 1) = (n : Int) - 1 := IntWalk.i64_in _ ⟨by omega, by omega⟩
  go_wp2_with fail
  refine (in_yes _ _ _ (by omega) (by omega)).mono ?_
  rintro e u ⟨rfl, rfl⟩
  go_wp2_with fail
  refine (forfeits_39 _ _ _ _ _ _ _).mono ?_
  rintro e U ⟨rfl, bt, bd, hbU⟩
  have HBU := Lib.hid (HB4.out.trans (hbU.mono (by omega)))
  have HIU := Lib.hid (HI4.out.below hbU HI4.out.lt)
  have HLU := Lib.hid (HL4.out.below hbU hs4)
  have HSEQ := Lib.hid (forf_seq 2 w4.heap.size (w4.heap.size + 1) w.heap.size B n c m d A C s p ix HG.out HPG.out HRI.out HFIT.out hB U (by have := HBU.out.size; omega) bt bd (HR.out.below (HBU.out.mono hB)) (HP.out.below (HBU.out.mono hB)))
  have hzt := bd.lt
  clear bt bd hbU ci HI4 HL4
  go_wp2_with fail
  refine (wpIn_wide (n := 3)).1 ?_
  refine wpIn_rangeFunc_M (F := Fence.wide) (n := 3) rfl (by omega) (gf := 56) (lb := #[.pointer (some ⟨w4.heap.size, 0, none⟩), .pointer (some ⟨w4.heap.size + 1, 0, none⟩)]) rfl trivial (enters_of Tryz.func56 (by kernel_rfl) rfl)
    HSEQ.out (fun h k => h.trans k) ?hKb (Below.refl _ _) (fun _ => rfl)
    (InZ w.heap.size (w.heap.size + 1) w.heap.size U.heap.size i w) (ownFrom_blocks (InZ.below' (by omega) (by omega) (by omega)) (fun _ _ h => h.2.2.2)) (fun s X Y h hb => InZ.below' (by omega) (by omega) (by omega) s X Y h (hb.mono h.2.2.2)) ?h0
    (fun x a' W' => a' = { tmps := #[.slice A n c, .slice C m d, .int .i64 i, undef, undef, .pointer (some ⟨w.heap.size, 0, none⟩), .pointer (some ⟨w.heap.size + 1, 0, none⟩), .int .i64 0, .int .i64 x.1, .int .i64 x.2, .slice A n c, .slice C m d, .int .i64 0, .int .i64 0, .bool false, undef, .int .i64 i, .slice A n c, .int .i64 n, .int .i64 ((n : Int) - 1), .bool true, .bool false, .slice A n c, .slice C m d, .func (.func 56) #[] #[.pointer (some ⟨w4.heap.size, 0, none⟩), .pointer (some ⟨w4.heap.size + 1, 0, none⟩)], .int .i64 x.1, .int .i64 x.2, undef, undef, undef, undef, undef], defers := [] })
    (fun x a' s A B row hs hg hr => hs) ?assign ?body ?done
  case hKb =>
    intro W' l o o' hl ho hc _
    exact KpF.put (by omega) ho hc
  case h0 => exact ⟨HLU.out, HIU.out, HBU.out, Nat.le_refl _⟩
  case assign =>
    intro l pre x W' K hI hK
    dsimp only [fzv]
    gi_wp2
    exact hK _ _ ((KeepsOthers.refl _).from _) (KpF.refl _) hI rfl
  case body =>
    rintro l pre x a' W' hl _ hI rfl ⟨rest, hpre⟩
    clear hpre
    have HV := Lib.hid hI.1
    have HII := Lib.hid hI.2.1
    have HBW := Lib.hid hI.2.2.1
    have hzW := hI.2.2.2
    clear hI
    have ci : W'.cell? ⟨w.heap.size, 0, none⟩ = some (.int .i64 i) := HII.out.cell 0
    have cl : W'.cell? ⟨w.heap.size + 1, 0, none⟩ = some (.int .i64 (rsV i pre)) := HV.out.cell 0
    have fl := HV.out.frozen 0
    by_cases hx : x.1 = i
    · have hxd : ((x.1 : Int) == (i : Int)) = true := by simp; omega
      have HN : Hid (rsV i (pre ++ [x]) = x.2) := Lib.hid (by rw [rsV_snoc, if_pos hx])
      clear hx
      gi_wp2
      refine ⟨(KeepsOthers.setCell _ _ _).from _, ⟨(Below.refl _ _).setCell (p := ⟨w.heap.size + 1, 0, none⟩) (by simp) _, fun k t cs h hb => ?_⟩, ?_, HII.out.far (by simp) _, HBW.out.setCell (p := ⟨w.heap.size + 1, 0, none⟩) (by simp) _, by simpa using hzW⟩
      · refine hb.far (fun e => ?_) _
        subst e
        have := HV.out
        unfold Blk at this hb
        simp only at this hb
        rw [this] at hb
        cases hb
        rcases h with h | h <;> exact absurd h (by decide)
      · rw [HN.out]
        exact HV.out.set_ 0 _
    · have hxd : ((x.1 : Int) == (i : Int)) = false := by simp; omega
      have HN : Hid (rsV i (pre ++ [x]) = rsV i pre) := Lib.hid (by rw [rsV_snoc, if_neg hx])
      clear hx
      gi_wp2
      exact ⟨(KeepsOthers.refl _).from _, KpF.refl _, by rw [HN.out]; exact HV.out, HII.out, HBW.out, hzW⟩
  case done =>
    rintro D xs W' hD rfl hI hKD
    rw [InZ, rsV_fz, if_pos hi] at hI
    have HV := Lib.hid hI.1
    have HBW := Lib.hid hI.2.2.1
    have hzW := hI.2.2.2
    have HKD := Lib.hid hKD
    clear hI hKD
    obtain ⟨v, hv⟩ : ∃ v, v = ffV s p ix i := ⟨_, rfl⟩
    rw [← hv] at HV
    have HVV := Lib.hid hv
    clear hv
    have cl : W'.cell? ⟨w.heap.size + 1, 0, none⟩ = some (.int .i64 v) := HV.out.cell 0
    have fl := HV.out.frozen 0
    go_wp2_with fail
    have HV1 : Hid (Blk (W'.setCell ⟨w.heap.size + 1, 0, none⟩ (.int .i64 v)) (w.heap.size + 1) 3 #[.int .i64 v]) := Lib.hid (HV.out.set_ 0 _)
    have HB1 := Lib.hid (HBW.out.setCell (p := ⟨w.heap.size + 1, 0, none⟩) (by simp) (.int .i64 v))
    have HD1 : Hid ((W'.setCell ⟨w.heap.size + 1, 0, none⟩ (.int .i64 v)).heap[D]? = some (.deferred (some []))) := Lib.hid ((Below.heap_setCell W' ⟨w.heap.size + 1, 0, none⟩ _ D (by simp; omega)).trans HKD.out)
    generalize W'.setCell ⟨w.heap.size + 1, 0, none⟩ (.int .i64 v) = W1 at HV1 HB1 HD1 ⊢
    refine leaves_one (v := .tuple #[.int .i64 v, .int .i64 0]) HD1.out ?_ ?_
    · refine results_int3 (p := 6) (u := 7) rfl _ _ (w.heap.size + 1) 3 (.int .i64 v) ?_ (blk_putObj HV1.out (show w.heap.size + 1 ≠ D by omega) _)
      rfl
    · exact ⟨by rw [HVV.out], below_putObj HB1.out (by omega) _⟩
end Go.Proofs.YtonkjnkokikpgaaGreat
