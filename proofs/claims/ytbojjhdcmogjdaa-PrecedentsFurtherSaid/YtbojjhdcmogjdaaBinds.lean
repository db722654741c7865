/- Contracts of Binds and of its test. -/
import Derived.Test.YtbojjhdcmogjdaaFirst
namespace Go.Proofs.Ytbojjhdcmogjdaa
open Go.RowKit

/-- does a case bind a side, as bits -/
def bndB (side : Int) (a f0 f1 : Nat) (x : Int) (f r : Nat) : Bool := (decide (x = side) && subB r a) && decide (misN a (othN f0 f1 x) f = 0)
set_option maxRecDepth 100000 in
set_option maxHeartbeats 4000000 in
theorem binds_34 (side x : Int) (a f0 f1 f r : Nat) (A : Option Addr) (n c ga gb gc : Nat) (w : World) (hx : x = 0 ∨ x = 1) (h0 : f0 < 18446744073709551616) (h1 : f1 < 18446744073709551616) (hf : f < 18446744073709551616) (hr : r < 18446744073709551616) (ha : a < 18446744073709551616)
    (b1 : Blk w ga 3 #[.int .i64 side]) (b2 : Blk w gb 48 #[.int .u64 a]) (b3 : Blk w gc 52 #[.int .u64 f0, .int .u64 f1, .slice A n c]) :
    Calls Try.prog 34 #[.agg #[.int .i64 x, .int .u64 f, .int .u64 r], .pointer (some ⟨ga, 0, none⟩), .pointer (some ⟨gb, 0, none⟩), .pointer (some ⟨gc, 0, none⟩)] w fun e w' => e = .returned (.bool (bndB side a f0 f1 x f r)) ∧ Below w.heap.size w w' := by
  have H1 : Hid (∀ w, Calls Try.prog 35 #[.int .u64 r, .int .u64 a] w fun e w' => e = .returned (.bool (subB r a)) ∧ w = w') := Lib.hid fun w => in_35 r a w hr ha
  have H2 : Hid (∀ w, Calls Try.prog 36 #[.agg #[.int .u64 f0, .int .u64 f1, .slice A n c], .agg #[.int .i64 x, .int .u64 f, .int .u64 r], .int .u64 a] w fun e w' => e = .returned (.int .u64 (misN a (othN f0 f1 x) f)) ∧ Below w.heap.size w w') := Lib.hid fun w => missing_36 f0 f1 A n c x f r a w hx h0 h1 hf ha
  have HB1 := Lib.hid b1
  have HB2 := Lib.hid b2
  have HB3 := Lib.hid b3
  have l1 := b1.lt
  have l2 := b2.lt
  have l3 := b3.lt
  clear h0 h1 hf hr ha hx b1 b2 b3
  go_enter Try.func34, Try.ntmps34
  go_upto_region 1 with fail
  obtain ⟨w0, hw0⟩ : ∃ zz, zz = w.alloc (.cells #[.int .i64 x, .int .u64 f, .int .u64 r] 59) := ⟨_, rfl⟩
  have HK0 : Hid (Blk w0 w.heap.size 59 #[.int .i64 x, .int .u64 f, .int .u64 r]) := Lib.hid (hw0 ▸ Blk.new _ _ _)
  have hb : Below w.heap.size w w0 := hw0 ▸ below_alloc _ _
  rw [← hw0]
  clear hw0
  have HB0 := Lib.hid hb
  have a0 : w0.cell? ⟨w.heap.size, 0, none⟩ = some (.int .i64 x) := HK0.out.cell 0
  have a1 : w0.cell? ⟨w.heap.size, 1, none⟩ = some (.int .u64 f) := HK0.out.cell 1
  have a2 : w0.cell? ⟨w.heap.size, 2, none⟩ = some (.int .u64 r) := HK0.out.cell 2
  have p0 : w0.cell? ⟨ga, 0, none⟩ = some (.int .i64 side) := (HB1.out.below hb l1).cell 0
  have p1 : w0.cell? ⟨gb, 0, none⟩ = some (.int .u64 a) := (HB2.out.below hb l2).cell 0
  have q0 : w0.cell? ⟨gc, 0, none⟩ = some (.int .u64 f0) := (HB3.out.below hb l3).cell 0
  have q1 : w0.cell? ⟨gc, 1, none⟩ = some (.int .u64 f1) := (HB3.out.below hb l3).cell 1
  have q2 : w0.cell? ⟨gc, 2, none⟩ = some (.slice A n c) := (HB3.out.below hb l3).cell 2
  clear hb
  by_cases hs : x = side
  · have HV : Hid (bndB side a f0 f1 x f r = (subB r a && decide (misN a (othN f0 f1 x) f = 0))) := Lib.hid (by simp [bndB, hs])
    subst hs
    generalize misN a (othN f0 f1 x) f = v at H2 HV
    go_wp2_with fail
    refine (H1.out _).mono ?_
    rintro e w' ⟨rfl, rfl⟩
    cases h1 : subB r a
    · go_wp2_with fail
      go_ret
      exact ⟨ret_bool (by rw [HV.out, h1]; rfl), HB0.out⟩
    go_wp2_with fail
    refine (H2.out _).mono ?_
    rintro e w1 ⟨rfl, hb⟩
    have HB9 := Lib.hid (HB0.out.trans (hb.mono HB0.out.size))
    clear hb
    by_cases hv : v = 0
    · subst hv
      go_wp2_with fail
      go_ret
      exact ⟨ret_bool (by rw [HV.out, h1]; rfl), HB9.out⟩
    · have hv' : ((v : Int) == 0) = false := by simp; omega
      go_wp2_with fail
      go_ret
      exact ⟨ret_bool (by rw [HV.out, h1]; simp [hv]), HB9.out⟩
  · have HV : Hid (bndB side a f0 f1 x f r = false) := Lib.hid (by simp [bndB, hs])
    have hs' : (x == side) = false := by simpa using hs
    clear hs
    go_wp2_with fail
    go_ret
    exact ⟨ret_bool HV.out.symm, HB0.out⟩

section
variable {S : Nat → Int} {sn n : Nat} {no hr wi : Nat → Int} {fn : Nat → Nat} {F : Nat → Nat → Int} {rn : Nat → Nat} {R : Nat → Nat → Int}
/-- what a right book is -/
theorem chk_zero (h : (chkE S sn n no hr wi fn F rn R) = 0) : sn ≤ 32 ∧ n ≤ 64 ∧ sidB S sn = true ∧ ∀ j, j < n → casB S sn no hr wi fn F rn R j = true := by
  unfold chkE at h
  split at h
  · cases h
  split at h
  · rename_i h1 h2
    exact ⟨by omega, by omega, h2.1, casN_at n h2.2⟩
  · cases h
theorem mask_small {f : Nat → Int} {m : Nat} (hs : sn ≤ 32) (h : okS sn f m = true) : mask f m < 18446744073709551616 :=
  Nat.lt_of_lt_of_le (mask_lt m fun q hq => (okS_at m h q hq).1) (Nat.le_trans (Nat.pow_le_pow_right (by omega) (show sn ≤ 64 by omega)) (by decide))
theorem fav_small {x : Int} (hs : sn ≤ 32) : fav S x sn < 18446744073709551616 :=
  Nat.lt_of_lt_of_le (fav_lt sn) (Nat.le_trans (Nat.pow_le_pow_right (by omega) (show sn ≤ 64 by omega)) (by decide))
end
theorem dcc_d3 (wi : Nat → Int) (fn : Nat → Nat) (F : Nat → Nat → Int) (rn : Nat → Nat) (R : Nat → Nat → Int) : dcc wi fn F rn R = d3 wi (fun j => mask (F j) (fn j)) (fun j => mask (R j) (rn j)) := rfl
/-- does case j bind a side -/
def bndP (S : Nat → Int) (sn : Nat) (wi : Nat → Int) (fn : Nat → Nat) (F : Nat → Nat → Int) (rn : Nat → Nat) (R : Nat → Nat → Int) (l : Nat → Int) (m : Nat) (side : Int) (j : Nat) : Bool :=
  bndB side (mask l m) (fav S 0 sn) (fav S 1 sn) (wi j) (mask (F j) (fn j)) (mask (R j) (rn j))
/-- what Binds hands back -/
def bdV (E : Int) (o : Option Nat) : Value := .tuple #[.int .i64 (if E = 0 then ((o.getD 0 : Nat) : Int) else 0), .bool (decide (E = 0) && o.isSome), .int .i64 E]
theorem results_tmp3' {fn : Func} {t u v : Tmp} (h : fn.results = #[.tmp t, .tmp u, .tmp v]) (tmps : Array Value) (P : Program) (w : World) :
    (results fn tmps).run P w = .ok (.tuple #[tmps.getD t undef, tmps.getD u undef, tmps.getD v undef]) w := by simp [results, h]

set_option maxRecDepth 100000 in
set_option maxHeartbeats 4000000 in
theorem Binds_15 {SA CA : Option Addr} {sn sc n cc : Nat} {S no hr wi : Nat → Int} {FA RA : Nat → Option Addr} {fn fc rn rc : Nat → Nat} {F R : Nat → Nat → Int} (B : Nat) (A : Option Addr) (m c : Nat) (l : Nat → Int) (side : Int) (w : World) (hs : SmK sn n fn rn) (hm : m ≤ 1000) (hB : B ≤ w.heap.size) (hr0 : RdK w B SA sn S CA n no hr wi FA fn fc F RA rn rc R) (hf : Rd w B A m (fun j => .int .i64 (l j))) :
    Calls Try.prog 15 #[(.agg #[.slice SA sn sc, .slice CA n cc]), .slice A m c, .int .i64 side] w fun e w' => e = .returned (bdV (askE (chkE S sn n no hr wi fn F rn R) sn l m side) (fstB (bndP S sn wi fn F rn R l m side) 0 n)) ∧ Below w.heap.size w w' := by
  obtain ⟨MF, hMF⟩ : ∃ MF : Nat → Nat, MF = fun j => mask (F j) (fn j) := ⟨_, rfl⟩
  obtain ⟨MR, hMR⟩ : ∃ MR : Nat → Nat, MR = fun j => mask (R j) (rn j) := ⟨_, rfl⟩
  have HX : Hid (∀ W, Below w.heap.size w W → Calls Try.prog 33 #[(.agg #[.slice SA sn sc, .slice CA n cc]), .slice A m c, .int .i64 side] W fun e w' => AskR (askE (chkE S sn n no hr wi fn F rn R) sn l m side) (fav S 0 sn) (fav S 1 sn) n (mask l m) (d3 wi MF MR) e w' ∧ Below W.heap.size W w') := Lib.hid fun W h => by
    have h1 := ask_33 (sc := sc) (cc := cc) B A m c l side W hs hm (Nat.le_trans hB h.size) (hr0.below (h.mono hB)) (hf.below (h.mono hB))
    rw [dcc_d3, ← hMF, ← hMR] at h1
    exact h1
  have HP : Hid (askE (chkE S sn n no hr wi fn F rn R) sn l m side = 0 → n ≤ 64 ∧ ∀ j, j < n → ∀ W ga gb gc A1 c1, Blk W ga 3 #[.int .i64 side] → Blk W gb 48 #[.int .u64 (mask l m)] → Blk W gc 52 #[.int .u64 (fav S 0 sn), .int .u64 (fav S 1 sn), .slice A1 n c1] →
      Calls Try.prog 34 #[.agg #[.int .i64 (wi j), .int .u64 (MF j), .int .u64 (MR j)], .pointer (some ⟨ga, 0, none⟩), .pointer (some ⟨gb, 0, none⟩), .pointer (some ⟨gc, 0, none⟩)] W fun e w' => e = .returned (.bool (bndP S sn wi fn F rn R l m side j)) ∧ Below W.heap.size W w') := Lib.hid fun h => by
    obtain ⟨h1, h2, _⟩ := askE_zero h
    obtain ⟨h4, h5, _, h6⟩ := chk_zero h1
    refine ⟨h5, fun j hj W ga gb gc A1 c1 b1 b2 b3 => ?_⟩
    obtain ⟨⟨_, _, h7⟩, _, h8, h9, _⟩ := casB_facts (h6 j hj)
    simp only [hMF, hMR]
    exact binds_34 side (wi j) (mask l m) _ _ _ _ A1 n c1 ga gb gc W (by omega) (fav_small h4) (fav_small h4) (mask_small h4 h8) (mask_small h4 h9) (mask_small h4 h2) b1 b2 b3
  clear hs hr0 hf hMF hMR
  generalize askE (chkE S sn n no hr wi fn F rn R) sn l m side = E at HX HP ⊢
  generalize bndP S sn wi fn F rn R l m side = p at HP ⊢
  generalize fav S 0 sn = f0 at HX HP
  generalize fav S 1 sn = f1 at HX HP
  generalize mask l m = a at HX HP
  obtain ⟨o, ho⟩ : ∃ o, o = fstB p 0 n := ⟨_, rfl⟩
  rw [← ho]
  have HO := Lib.hid ho
  clear ho
  go_enter Try.func15, Try.ntmps15
  go_upto_region 1 with fail
  obtain ⟨w0, hw0⟩ : ∃ zz, zz = (w.alloc (.cells #[.slice SA sn sc, .slice CA n cc] 25)).alloc (.cells #[.int .i64 side] 3) := ⟨_, rfl⟩
  have HK0 : Hid (Blk w0 w.heap.size 25 #[.slice SA sn sc, .slice CA n cc]) := Lib.hid (hw0 ▸ (Blk.new _ _ _).alloc _)
  have HS0 : Hid (Blk w0 (w.heap.size + 1) 3 #[.int .i64 side]) := Lib.hid (hw0 ▸ Blk.new' (by simp))
  have HB0 : Hid (Below w.heap.size w w0) := Lib.hid (by rw [hw0]; (repeat (first | exact Below.refl _ _ | exact below_alloc _ _ | refine Below.alloc ?_ (by simp; omega) _ | refine Below.alloc ?_ (by simp) _)))
  rw [← hw0]
  clear hw0
  have hs0 := HS0.out.lt
  have hz0 := HB0.out.size
  have cb0 : w0.cell? ⟨w.heap.size, 0, none⟩ = some (.slice SA sn sc) := HK0.out.cell 0
  have cb1 : w0.cell? ⟨w.heap.size, 1, none⟩ = some (.slice CA n cc) := HK0.out.cell 1
  have cs0 : w0.cell? ⟨w.heap.size + 1, 0, none⟩ = some (.int .i64 side) := HS0.out.cell 0
  go_wp2_with fail
  refine (HX.out _ HB0.out).mono ?_
  rintro e w1 ⟨⟨a', b', u, A1, m1, c1, rfl, hrd⟩, hb⟩
  have HRD := Lib.hid hrd
  have HS1 := Lib.hid (HS0.out.below hb hs0)
  have HB1 := Lib.hid (HB0.out.trans (hb.mono hz0))
  clear hrd hb HK0 HS0 HB0 cb0 cb1 cs0
  have hs1 := HS1.out.lt
  have hz1 := HB1.out.size
  go_upto_region 2 with fail
  obtain ⟨w2, hw2⟩ : ∃ zz, zz = (w1.alloc (.cells #[.int .u64 a', .int .u64 b', .slice A1 m1 c1] 52)).alloc (.cells #[.int .u64 u] 48) := ⟨_, rfl⟩
  have HC2 : Hid (Blk w2 w1.heap.size 52 #[.int .u64 a', .int .u64 b', .slice A1 m1 c1]) := Lib.hid (hw2 ▸ (Blk.new _ _ _).alloc _)
  have HU2 : Hid (Blk w2 (w1.heap.size + 1) 48 #[.int .u64 u]) := Lib.hid (hw2 ▸ Blk.new' (by simp))
  have HS2 : Hid (Blk w2 (w.heap.size + 1) 3 #[.int .i64 side]) := Lib.hid (hw2 ▸ (HS1.out.alloc _).alloc _)
  have hb2 : Below w1.heap.size w1 w2 := by rw [hw2]; (repeat (first | exact Below.refl _ _ | exact below_alloc _ _ | refine Below.alloc ?_ (by simp; omega) _ | refine Below.alloc ?_ (by simp) _))
  have HB2 := Lib.hid (HB1.out.trans (hb2.mono hz1))
  have HRD2 : Hid (E = 0 → a' = f0 ∧ b' = f1 ∧ m1 = n ∧ u = a ∧ Rd w2 w1.heap.size A1 (n * 3) (d3 wi MF MR)) := Lib.hid fun h => by
    obtain ⟨e1, e2, e3, e4, h5⟩ := HRD.out h
    exact ⟨e1, e2, e3, e4, h5.below hb2⟩
  rw [← hw2]
  clear hw2 hb2 HRD HS1 HB1
  have hs2 := HU2.out.lt
  have hz2 := HB2.out.size
  by_cases hE : E = 0
  · obtain ⟨rfl, rfl, rfl, rfl, hrd⟩ := HRD2.out hE
    obtain ⟨h64, hcall⟩ := HP.out hE
    have HCALL := Lib.hid hcall
    have HR9 := Lib.hid hrd
    subst hE
    clear hrd hcall HX HP HRD2
    have cc2 : w2.cell? ⟨w1.heap.size, 2, none⟩ = some (.slice A1 m1 c1) := HC2.out.cell 2
    have HF : Hid (Calls Try.prog 27 #[.slice A1 m1 c1, .int .i64 0, .func (.func 34) #[] #[.pointer (some ⟨w.heap.size + 1, 0, none⟩), .pointer (some ⟨w1.heap.size + 1, 0, none⟩), .pointer (some ⟨w1.heap.size, 0, none⟩)]] w2 fun e w' => e = .returned (fstV (fstB p 0 m1)) ∧ Below w2.heap.size w2 w') := Lib.hid
      (first_binds A1 m1 c1 w1.heap.size 0 wi MF MR (w.heap.size + 1) (w1.heap.size + 1) w1.heap.size p w2 (by omega) (by omega) (by omega) HR9.out (fun j hj W hW =>
        HCALL.out j hj W _ _ _ A1 c1 (HS2.out.below hW HS2.out.lt) (HU2.out.below hW HU2.out.lt) (HC2.out.below hW HC2.out.lt)))
    unfold fstV at HF
    rw [← HO.out] at HF
    have HV : Hid (bdV 0 o = .tuple #[.int .i64 (o.getD 0 : Nat), .bool o.isSome, .int .i64 0]) := Lib.hid (by simp [bdV])
    go_wp2_with fail
    refine HF.out.mono ?_
    rintro e w3 ⟨rfl, hb⟩
    have HB3 := Lib.hid (HB2.out.trans (hb.mono hz2))
    clear hb
    go_wp2_with fail
    refine bodyPost_ret (results_tmp3' rfl _ _ _) rfl ?_
    exact ⟨ret_val HV.out.symm, HB3.out⟩
  · have HV : Hid (∀ o, bdV E o = .tuple #[.int .i64 0, .bool false, .int .i64 E]) := Lib.hid fun o => by simp [bdV, hE]
    have hE' : (E != 0) = true := by simpa using hE
    clear hE
    go_wp2_with fail
    refine bodyPost_ret (results_tmp3' rfl _ _ _) rfl ?_
    exact ⟨ret_val (HV.out _).symm, HB2.out⟩
end Go.Proofs.Ytbojjhdcmogjdaa
