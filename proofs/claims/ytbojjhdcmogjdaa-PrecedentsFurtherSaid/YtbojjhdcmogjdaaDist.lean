/- Contract of Distinguish. -/
import Derived.Test.YtbojjhdcmogjdaaRefDist
namespace Go.Proofs.Ytbojjhdcmogjdaa
open Go.RowKit

/-- is a number's bit set? -/
def bitP (v : Nat) (x : Int) : Bool := v.testBit x.toNat
/-- the bits of v below n -/
def bitL (v n : Nat) : List Int := fltL (bitP v) (fun k => (k : Int)) n
theorem bitL_take {v k : Nat} (h : v.testBit k = true) : bitL v (k + 1) = bitL v k ++ [(k : Int)] := by
  unfold bitL; rw [fltL, if_pos (by simpa [bitP] using h)]
theorem bitL_skip {v k : Nat} (h : v.testBit k = false) : bitL v (k + 1) = bitL v k := by
  unfold bitL; rw [fltL, if_neg (by simp [bitP, h])]

/-- what is handed back is new -/
def DisF (L0 : Nat) (e : Ending) : Prop := ∀ v x y, e = .returned (.tuple #[v, x, y]) → ∀ q, v.ownBlock = some q → L0 ≤ q
theorem DisF.bad {L0 : Nat} {x y : Value} : DisF L0 (.returned (.tuple #[.slice none 0 0, x, y])) := fun v x y e q hq => by cases e; cases hq
theorem DisF.own {L0 base n c : Nat} {A : Option Addr} {w : World} {e : TypeId} {size : Nat} {xs : List Value} {x y : Value} (h : w.ownsRow base e size (.slice A n c) n xs) (hb : L0 ≤ base) : DisF L0 (.returned (.tuple #[.slice A n c, x, y])) :=
  fun v x y e q hq => by cases e; have := (h.lt q hq).1; omega
theorem bit_one {v k : Nat} (hv : v < 18446744073709551616) (h : v.testBit k = true) : bits .and .u64 ((v : Int) / 2 ^ k) 1 = 1 := by
  have e : (v : Int) / 2 ^ k = ((v / 2 ^ k : Nat) : Int) := by simp
  have h1 : v / 2 ^ k < 18446744073709551616 := Nat.lt_of_le_of_lt (Nat.div_le_self _ _) hv
  have h2 := u64_and_nat (v / 2 ^ k) 1 h1 (by decide)
  rw [Nat.testBit_eq_decide_div_mod_eq, decide_eq_true_eq] at h
  rw [e]
  refine h2.trans ?_
  rw [nat_mask1, h]; rfl
theorem bit_zero {v k : Nat} (hv : v < 18446744073709551616) (h : v.testBit k = false) : bits .and .u64 ((v : Int) / 2 ^ k) 1 = 0 := by
  have e : (v : Int) / 2 ^ k = ((v / 2 ^ k : Nat) : Int) := by simp
  have h1 : v / 2 ^ k < 18446744073709551616 := Nat.lt_of_le_of_lt (Nat.div_le_self _ _) hv
  have h2 := u64_and_nat (v / 2 ^ k) 1 h1 (by decide)
  rw [Nat.testBit_eq_decide_div_mod_eq, decide_eq_false_iff_not] at h
  rw [e]
  refine h2.trans ?_
  rw [nat_mask1, show v / 2 ^ k % 2 = 0 by omega]; rfl

set_option maxRecDepth 100000 in
set_option maxHeartbeats 4000000 in
theorem Dist_19 {SA CA : Option Addr} {sn sc n cc : Nat} {S no hr wi : Nat → Int} {FA RA : Nat → Option Addr} {fn fc rn rc : Nat → Nat} {F R : Nat → Nat → Int} (B : Nat) (A : Option Addr) (m c : Nat) (l : Nat → Int) (i : Int) (w : World) (hs : SmK sn n fn rn) (hm : m ≤ 1000) (hB : B ≤ w.heap.size) (hr0 : RdK w B SA sn S CA n no hr wi FA fn fc F RA rn rc R) (hf : Rd w B A m (fun j => .int .i64 (l j))) :
    Calls Try.prog 19 #[(.agg #[.slice SA sn sc, .slice CA n cc]), .int .i64 i, .slice A m c] w fun e w' => (DisR (bitL (misN (mask l m) (othN (fav S 0 sn) (fav S 1 sn) (wi i.toNat)) (mask (F i.toNat) (fn i.toNat))) sn) (decide (misN (mask l m) (othN (fav S 0 sn) (fav S 1 sn) (wi i.toNat)) (mask (F i.toNat) (fn i.toNat)) ≠ 0) && subB (mask (R i.toNat) (rn i.toNat)) (mask l m)) (disE (askE (chkE S sn n no hr wi fn F rn R) sn l m 0) n i) e w' ∧ DisF w.heap.size e) ∧ Below w.heap.size w w' := by
  obtain ⟨MF, hMF⟩ : ∃ MF : Nat → Nat, MF = fun j => mask (F j) (fn j) := ⟨_, rfl⟩
  obtain ⟨MR, hMR⟩ : ∃ MR : Nat → Nat, MR = fun j => mask (R j) (rn j) := ⟨_, rfl⟩
  have HX : Hid (∀ W, Below w.heap.size w W → Calls Try.prog 33 #[(.agg #[.slice SA sn sc, .slice CA n cc]), .slice A m c, .int .i64 0] W fun e w' => AskR (askE (chkE S sn n no hr wi fn F rn R) sn l m 0) (fav S 0 sn) (fav S 1 sn) n (mask l m) (d3 wi MF MR) e w' ∧ Below W.heap.size W w') := Lib.hid fun W h => by
    have h1 := ask_33 (sc := sc) (cc := cc) B A m c l 0 W hs hm (Nat.le_trans hB h.size) (hr0.below (h.mono hB)) (hf.below (h.mono hB))
    rw [dcc_d3, ← hMF, ← hMR] at h1
    exact h1
  have hsn : (sn : Int) ≤ 100 := by have := hs.1; omega
  have HP : Hid (askE (chkE S sn n no hr wi fn F rn R) sn l m 0 = 0 → (n ≤ 64 ∧ sn ≤ 32) ∧ ∀ j, j < n → (∀ W A1 c1, Calls Try.prog 36 #[.agg #[.int .u64 (fav S 0 sn : Nat), .int .u64 (fav S 1 sn : Nat), .slice A1 n c1], .agg #[.int .i64 (wi j), .int .u64 (MF j : Nat), .int .u64 (MR j : Nat)], .int .u64 (mask l m : Nat)] W fun e w' => e = .returned (.int .u64 (misN (mask l m) (othN (fav S 0 sn) (fav S 1 sn) (wi j)) (MF j) : Nat)) ∧ Below W.heap.size W w') ∧
      (∀ W, Calls Try.prog 35 #[.int .u64 (MR j : Nat), .int .u64 (mask l m : Nat)] W fun e w' => e = .returned (.bool (subB (MR j) (mask l m))) ∧ W = w') ∧ misN (mask l m) (othN (fav S 0 sn) (fav S 1 sn) (wi j)) (MF j) < 18446744073709551616) := Lib.hid fun h => by
    obtain ⟨h1, h2, _⟩ := askE_zero h
    obtain ⟨h4, h5, _, h6⟩ := chk_zero h1
    refine ⟨⟨h5, h4⟩, fun j hj => ?_⟩
    obtain ⟨⟨_, _, h7⟩, _, h8, h9, _⟩ := casB_facts (h6 j hj)
    simp only [hMF, hMR]
    refine ⟨fun W A1 c1 => missing_36 _ _ A1 n c1 (wi j) _ _ _ W (by omega) (fav_small h4) (fav_small h4) (mask_small h4 h8) (mask_small h4 h2), fun W => in_35 _ _ W (mask_small h4 h9) (mask_small h4 h2), ?_⟩
    exact Nat.lt_of_le_of_lt Nat.and_le_left (Nat.lt_of_le_of_lt Nat.and_le_left (mask_small h4 h2))
  obtain ⟨L, hL⟩ : ∃ L, L = bitL (misN (mask l m) (othN (fav S 0 sn) (fav S 1 sn) (wi i.toNat)) (mask (F i.toNat) (fn i.toNat))) sn := ⟨_, rfl⟩
  obtain ⟨d, hd⟩ : ∃ d, d = (decide (misN (mask l m) (othN (fav S 0 sn) (fav S 1 sn) (wi i.toNat)) (mask (F i.toNat) (fn i.toNat)) ≠ 0) && subB (mask (R i.toNat) (rn i.toNat)) (mask l m)) := ⟨_, rfl⟩
  rw [← hL, ← hd]
  have HLL : Hid (∀ j : Nat, i = j → bitL (misN (mask l m) (othN (fav S 0 sn) (fav S 1 sn) (wi j)) (MF j)) sn = L ∧ d = (decide (misN (mask l m) (othN (fav S 0 sn) (fav S 1 sn) (wi j)) (MF j) ≠ 0) && subB (MR j) (mask l m))) := Lib.hid fun j h => by rw [hL, hd, h, Int.toNat_natCast]; simp only [hMF, hMR]; exact ⟨trivial, trivial⟩
  clear hL hd hs hr0 hf hMF hMR
  generalize askE (chkE S sn n no hr wi fn F rn R) sn l m 0 = E at HX HP ⊢
  generalize fav S 0 sn = f0 at HX HP HLL
  generalize fav S 1 sn = f1 at HX HP HLL
  generalize mask l m = a at HX HP HLL
  obtain ⟨E2, hE2⟩ : ∃ E2, E2 = disE E n i := ⟨_, rfl⟩
  rw [← hE2]
  have HE2 := Lib.hid hE2
  clear hE2
  obtain ⟨i0, hi, hi0, hi1, hi2⟩ := info_parts info3
  go_enter Try.func19, Try.ntmps19
  go_upto_region 1 with fail
  obtain ⟨w0, hw0⟩ : ∃ zz, zz = w.alloc (.cells #[.slice SA sn sc, .slice CA n cc] 25) := ⟨_, rfl⟩
  have HK0 : Hid (Blk w0 w.heap.size 25 #[.slice SA sn sc, .slice CA n cc]) := Lib.hid (hw0 ▸ Blk.new _ _ _)
  have HB0 : Hid (Below w.heap.size w w0) := Lib.hid (hw0 ▸ below_alloc _ _)
  rw [← hw0]
  clear hw0
  have hs0 := HK0.out.lt
  have hz0 := HB0.out.size
  have cb0 : w0.cell? ⟨w.heap.size, 0, none⟩ = some (.slice SA sn sc) := HK0.out.cell 0
  have cb1 : w0.cell? ⟨w.heap.size, 1, none⟩ = some (.slice CA n cc) := HK0.out.cell 1
  go_wp2_with fail
  refine (HX.out _ HB0.out).mono ?_
  rintro e w1 ⟨⟨a', b', u, A1, m1, c1, rfl, hrd⟩, hb⟩
  have HRD := Lib.hid hrd
  have HK1 := Lib.hid (HK0.out.below hb hs0)
  have HB1 := Lib.hid (HB0.out.trans (hb.mono hz0))
  clear hrd hb HK0 HB0 cb0 cb1
  have hs1 := HK1.out.lt
  have hz1 := HB1.out.size
  go_upto_region 2 with fail
  obtain ⟨w2, hw2⟩ : ∃ zz, zz = w1.alloc (.cells #[.int .u64 (a' : Nat), .int .u64 (b' : Nat), .slice A1 m1 c1] 52) := ⟨_, rfl⟩
  have HC2 : Hid (Blk w2 w1.heap.size 52 #[.int .u64 (a' : Nat), .int .u64 (b' : Nat), .slice A1 m1 c1]) := Lib.hid (hw2 ▸ Blk.new _ _ _)
  have hb2 : Below w1.heap.size w1 w2 := hw2 ▸ below_alloc _ _
  have HK2 := Lib.hid (HK1.out.below hb2 hs1)
  have HB2 := Lib.hid (HB1.out.trans (hb2.mono hz1))
  have HRD2 : Hid (E = 0 → a' = f0 ∧ b' = f1 ∧ m1 = n ∧ u = a ∧ Rd w2 w1.heap.size A1 (n * 3) (d3 wi MF MR)) := Lib.hid fun h => by
    obtain ⟨e1, e2, e3, e4, h5⟩ := HRD.out h
    exact ⟨e1, e2, e3, e4, h5.below hb2⟩
  rw [← hw2]
  clear hw2 hb2 HRD HK1 HB1
  have hs2 := HC2.out.lt
  have hz2 := HB2.out.size
  by_cases hE : E = 0
  · obtain ⟨rfl, rfl, rfl, rfl, hrd⟩ := HRD2.out hE
    obtain ⟨⟨h64, h32⟩, hcall⟩ := HP.out hE
    have HCALL := Lib.hid hcall
    have HR9 := Lib.hid hrd
    have h64' : (m1 : Int) ≤ 64 := by omega
    have h32' : (sn : Int) ≤ 32 := by omega
    subst hE
    clear hrd hcall HX HP HRD2
    have cc0 : w2.cell? ⟨w1.heap.size, 0, none⟩ = some (.int .u64 (a' : Nat)) := HC2.out.cell 0
    have cc1 : w2.cell? ⟨w1.heap.size, 1, none⟩ = some (.int .u64 (b' : Nat)) := HC2.out.cell 1
    have cc2 : w2.cell? ⟨w1.heap.size, 2, none⟩ = some (.slice A1 m1 c1) := HC2.out.cell 2
    by_cases hi1' : i < 0
    · have HE : Hid (E2 = 1) := Lib.hid (by rw [HE2.out, disE, if_neg (by simp), if_neg (by omega)])
      go_wp2_with fail
      refine bodyPost_ret (results_tmp3' rfl _ _ _) rfl ?_
      refine ⟨?_, HB2.out⟩
      rw [HE.out]
      exact ⟨DisR.bad (by decide), DisF.bad⟩
    obtain ⟨j, rfl⟩ : ∃ j : Nat, i = j := ⟨i.toNat, by omega⟩
    by_cases hj : m1 ≤ j
    · have hj' : (m1 : Int) ≤ j := by omega
      have HE : Hid (E2 = 1) := Lib.hid (by rw [HE2.out, disE, if_neg (by simp), if_neg (by omega)])
      go_wp2_with fail
      refine bodyPost_ret (results_tmp3' rfl _ _ _) rfl ?_
      refine ⟨?_, HB2.out⟩
      rw [HE.out]
      exact ⟨DisR.bad (by decide), DisF.bad⟩
    have hjn : j < m1 := by omega
    have hj' : (j : Int) < m1 := by omega
    have HE : Hid (E2 = 0) := Lib.hid (by rw [HE2.out, disE, if_neg (by simp), if_pos (by omega)])
    obtain ⟨e1, e2⟩ := HLL.out j rfl
    obtain ⟨h36, h35, hv⟩ := HCALL.out j hjn
    have H36 := Lib.hid (fun W => h36 W A1 c1)
    have H35 := Lib.hid h35
    obtain ⟨v, hve⟩ : ∃ v, v = misN u (othN a' b' (wi j)) (MF j) := ⟨_, rfl⟩
    rw [← hve] at e1 e2 H36 hv
    have HD := Lib.hid e2
    have HL := Lib.hid e1
    clear hve h36 h35 HCALL HLL e1 e2 hi1' hj
    obtain ⟨b, off, rfl, _, k0, k1, k2⟩ := rd3_at HR9.out hjn
    go_upto_region 7 with fail
    obtain ⟨w3, hw3⟩ : ∃ zz, zz = w2.alloc (.cells #[.int .i64 (wi j), .int .u64 (MF j : Nat), .int .u64 (MR j : Nat)] 59) := ⟨_, rfl⟩
    have HY3 : Hid (Blk w3 w2.heap.size 59 #[.int .i64 (wi j), .int .u64 (MF j : Nat), .int .u64 (MR j : Nat)]) := Lib.hid (hw3 ▸ Blk.new _ _ _)
    have hb3 : Below w2.heap.size w2 w3 := hw3 ▸ below_alloc _ _
    have HK3 := Lib.hid (HK2.out.below hb3 (by omega))
    have HC3 := Lib.hid (HC2.out.below hb3 hs2)
    have HB3 := Lib.hid (HB2.out.trans (hb3.mono hz2))
    rw [← hw3]
    clear hw3 hb3 HK2 HC2 HB2 cc0 cc1 cc2 k0 k1 k2 HR9
    have hs3 := HY3.out.lt
    have hz3 := HB3.out.size
    have cc0 : w3.cell? ⟨w1.heap.size, 0, none⟩ = some (.int .u64 (a' : Nat)) := HC3.out.cell 0
    have cc1 : w3.cell? ⟨w1.heap.size, 1, none⟩ = some (.int .u64 (b' : Nat)) := HC3.out.cell 1
    have cc2 : w3.cell? ⟨w1.heap.size, 2, none⟩ = some (.slice (some ⟨b, off, none⟩) m1 c1) := HC3.out.cell 2
    have cy0 : w3.cell? ⟨w2.heap.size, 0, none⟩ = some (.int .i64 (wi j)) := HY3.out.cell 0
    have cy1 : w3.cell? ⟨w2.heap.size, 1, none⟩ = some (.int .u64 (MF j : Nat)) := HY3.out.cell 1
    have cy2 : w3.cell? ⟨w2.heap.size, 2, none⟩ = some (.int .u64 (MR j : Nat)) := HY3.out.cell 2
    go_wp2_with fail
    refine (H36.out _).mono ?_
    rintro e w4 ⟨rfl, hb⟩
    have HK4 := Lib.hid (HK3.out.below hb (by omega))
    have HY4 := Lib.hid (HY3.out.below hb hs3)
    have HB4 := Lib.hid (HB3.out.trans (hb.mono hz3))
    have hzb := hb.size
    clear hb HK3 HC3 HY3 HB3 cc0 cc1 cc2 cy0 cy1 cy2
    have hz4 := HB4.out.size
    have hs4 := HY4.out.lt
    have cb0 : w4.cell? ⟨w.heap.size, 0, none⟩ = some (.slice SA sn sc) := HK4.out.cell 0
    go_wp2_with fail
    have hvv := hv
    go_loopw [6, 45] (fun x q wr => ∃ k : Nat, k ≤ sn ∧ q = .int .i64 k ∧ wr.ownsRow w4.heap.size 3 1 x (bitL v k).length (rowL (bitL v k)) ∧ Below w4.heap.size w4 wr) (fun _ q _ => sn - (intOf q).toNat)
    case atStart => exact ⟨0, Nat.zero_le _, rfl, World.ownsRow_nil _ _ _ _, Below.refl _ _⟩
    case round =>
      obtain ⟨k, hk, rfl, hO, hb⟩ := hrel
      obtain ⟨A3, c3, hve⟩ := own_form hO
      subst hve
      have HO := Lib.hid hO
      have HBL := Lib.hid hb
      have hz5 := hb.size
      have hlen : (bitL v k).length ≤ k := fltL_len _ _ _
      clear hO hb
      by_cases hlt : k < sn
      · have hlt' : (k : Int) < sn := by omega
        cases h1 : v.testBit k
        · have HS1 := Lib.hid (bitL_skip h1)
          have hb0 := bit_zero hvv h1
          clear h1
          go_wp2_with fail
          go_roundw
          case rel => exact ⟨k + 1, by omega, by go_num, by rw [HS1.out]; exact HO.out, HBL.out⟩
          case measure => simp [intOf]; omega
        · have HS1 := Lib.hid (bitL_take h1)
          have hb0 := bit_one hvv h1
          clear h1
          generalize hK : (bitL v k).length = K at HO hlen ⊢
          go_wp2_with (at_builtin; refine wpList_append_own_at _ rfl _ _ 22 rfl w4.heap.size 3 i0 (.int .i64 0) 1 8 Try.underlying22 hi hi0 hi1 hi2 rfl (by decide) (.slice A3 K c3) K (rowL (bitL v k)) rfl (HO.out.alloc _) ⟨_, 0, none⟩ 1 1 [.int .i64 (k : Nat)] rfl rfl (one_new _ _ _) (one_one _) (by unfold maxLen; omega) (by omega) (by simp; omega) ?_; intro vv w8 hown8 hgrow8 _ _; obtain ⟨A4, c4, hvv4⟩ := own_form hown8; subst hvv4)
          go_roundw
          case rel => exact ⟨k + 1, by omega, by go_num, by rw [HS1.out, List.length_append, hK, ← rowL_snoc]; exact hown8, (HBL.out.alloc (by omega) _).grown hgrow8 (by simp; omega) (fun q e => (HO.out.lt q e).1)⟩
          case measure => simp [intOf]; omega
      · obtain rfl : k = sn := by omega
        have hrd : Rd wr wr.heap.size A3 (bitL v k).length (fun j => .int .i64 ((bitL v k).getD j 0)) := by
          have := Rd.of_own HO.out (fun j hj => rowL_at _ j hj); rwa [Nat.mul_one] at this
        have HRL := Lib.hid hrd
        have HB5 := Lib.hid (HB4.out.trans (HBL.out.mono hz4))
        have cy2 : wr.cell? ⟨w2.heap.size, 2, none⟩ = some (.int .u64 (MR j : Nat)) := (HY4.out.below HBL.out hs4).cell 2
        have HLL : Hid (bitL v k = L) := HL
        rw [HLL.out] at HRL
        have HOO := Lib.hid HO.out
        rw [HLL.out] at HOO
        rw [HLL.out]
        clear hrd HO
        by_cases hv0 : v = 0
        · have HD2 : Hid (d = false) := Lib.hid (by rw [HD.out]; simp [hv0])
          subst hv0
          go_wp2_with fail
          refine bodyPost_ret (results_tmp3' rfl _ _ _) rfl ?_
          refine ⟨⟨⟨A3, _, c3, by rw [HE.out, HD2.out]; rfl, by rw [HE.out, if_pos rfl], HRL.out⟩, DisF.own HOO.out hz4⟩, HB5.out⟩
        · have hv' : ((v : Int) != 0) = true := by simp; omega
          have HD2 : Hid (d = subB (MR j) u) := Lib.hid (by rw [HD.out]; simp [hv0])
          clear hv0
          go_wp2_with fail
          refine (H35.out _).mono ?_
          rintro e w' ⟨rfl, rfl⟩
          go_wp2_with fail
          refine bodyPost_ret (results_tmp3' rfl _ _ _) rfl ?_
          refine ⟨⟨⟨A3, _, c3, by rw [HE.out, HD2.out]; rfl, by rw [HE.out, if_pos rfl], HRL.out⟩, DisF.own HOO.out hz4⟩, HB5.out⟩
  · have HE : Hid (E2 = E) := Lib.hid (by rw [HE2.out, disE, if_pos hE])
    have HNE := Lib.hid hE
    have hE' : (E != 0) = true := by simpa using hE
    clear hE
    go_wp2_with fail
    refine bodyPost_ret (results_tmp3' rfl _ _ _) rfl ?_
    refine ⟨?_, HB2.out⟩
    rw [HE.out]
    exact ⟨DisR.bad HNE.out, DisF.bad⟩
end Go.Proofs.Ytbojjhdcmogjdaa
