/- Contract of the law PrecedentsFortiori: it returns true for every input. -/
import Derived.Test.YtbojjhdcmogjdaaLawA
import Derived.Test.YtbojjhdcmogjdaaReas
namespace Go.Proofs.Ytbojjhdcmogjdaa
open Go.RowKit

/-- it returns a Boolean, true only where Q holds -/
def RtR (Q : Prop) (e : Ending) : Prop := ∃ b, e = .returned (.bool b) ∧ (b = true → Q)
set_option maxRecDepth 100000 in
set_option maxHeartbeats 4000000 in
theorem right_22 {SA CA : Option Addr} {sn sc n cc : Nat} {S no hr wi : Nat → Int} {FA RA : Nat → Option Addr} {fn fc rn rc : Nat → Nat} {F R : Nat → Nat → Int} (B : Nat) (A : Option Addr) (m c : Nat) (l : Nat → Int) (w : World) (hn : n ≤ 9223372036854775807) (hB : B ≤ w.heap.size) (hr0 : RdK w B SA sn S CA n no hr wi FA fn fc F RA rn rc R) (hf : Rd w B A m (fun j => .int .i64 (l j))) :
    Calls Try.prog 22 #[(.agg #[.slice SA sn sc, .slice CA n cc]), .slice A m c] w fun e w' => RtR (SmK sn n fn rn ∧ (chkE S sn n no hr wi fn F rn R) = 0 ∧ m ≤ 60 ∧ okS sn l m = true) e ∧ Below w.heap.size w w' := by
  have HF : Hid (∀ W, Below w.heap.size w W → Calls Try.prog 10 #[(.agg #[.slice SA sn sc, .slice CA n cc])] W fun e w' => (∃ b, e = .returned (.bool b) ∧ (b = true → SmK sn n fn rn)) ∧ Below W.heap.size W w') := Lib.hid fun W h => Few_10 B W hn (Nat.le_trans hB h.size) (hr0.below (h.mono hB))
  have H14 : Hid (SmK sn n fn rn → ∀ W, Below w.heap.size w W → Calls Try.prog 14 #[(.agg #[.slice SA sn sc, .slice CA n cc])] W fun e w' => e = .returned (.int .i64 (chkE S sn n no hr wi fn F rn R)) ∧ Below W.heap.size W w') := Lib.hid fun hs W h => ref_Check_14 B W hs (Nat.le_trans hB h.size) (hr0.below (h.mono hB))
  have H31 : Hid (SmK sn n fn rn → m ≤ 1000 → ∀ W, Below w.heap.size w W → Calls Try.prog 31 #[(.agg #[.slice SA sn sc, .slice CA n cc]), .slice A m c] W fun e w' => e = .returned (.bool (okS sn l m)) ∧ Below W.heap.size W w') := Lib.hid fun hs hm W h => Set_31 SA CA A sn sc n cc m c B l W (by have := hs.1; omega) hm (Nat.le_trans hB h.size) (hf.below (h.mono hB))
  clear hr0 hf
  obtain ⟨Q, hQ⟩ : ∃ Q, Q = (SmK sn n fn rn ∧ (chkE S sn n no hr wi fn F rn R) = 0 ∧ m ≤ 60 ∧ okS sn l m = true) := ⟨_, rfl⟩
  have HQ : Hid (SmK sn n fn rn → (chkE S sn n no hr wi fn F rn R) = 0 → m ≤ 60 → okS sn l m = true → Q) := Lib.hid fun h1 h2 h3 h4 => hQ ▸ ⟨h1, h2, h3, h4⟩
  rw [← hQ]
  clear hQ
  generalize okS sn l m = ok at H31 HQ
  generalize (chkE S sn n no hr wi fn F rn R) = E at H14 HQ
  have HYES : Hid (SmK sn n fn rn → E = 0 → m ≤ 60 → RtR Q (.returned (.bool ok))) := Lib.hid fun h1 h2 h3 => ⟨ok, rfl, fun h4 => HQ.out h1 h2 h3 h4⟩
  have HNO : Hid (∀ w', Below w.heap.size w w' → RtR Q (.returned (.bool false)) ∧ Below w.heap.size w w') := Lib.hid fun w' h => ⟨⟨false, rfl, fun h => by cases h⟩, h⟩
  clear HQ
  go_enter Try.func22, Try.ntmps22
  go_upto_region 1 with fail
  obtain ⟨w0, hbx⟩ : ∃ zz, zz = w.alloc (.cells #[.slice SA sn sc, .slice CA n cc] 25) := ⟨_, rfl⟩
  have NK : Blk w0 (w.heap.size) 25 #[.slice SA sn sc, .slice CA n cc] := hbx ▸ ((Blk.new' rfl))
  have hb : Below w.heap.size w w0 := by rw [hbx]; (repeat (first | exact Below.refl _ _ | exact below_alloc _ _ | refine Below.alloc ?_ (by simp; omega) _ | refine Below.alloc ?_ (by simp) _))
  rw [← hbx]
  clear hbx
  have B1 := Lib.hid (show Below w.heap.size w w0 from hb)
  have hz1 := B1.out.size
  clear hb 
  have K1 := Lib.hid NK
  clear NK
  have hsK1 := K1.out.lt
  have cK0 : w0.cell? ⟨w.heap.size, 0, none⟩ = some (.slice SA sn sc) := K1.out.cell 0
  have cK1 : w0.cell? ⟨w.heap.size, 1, none⟩ = some (.slice CA n cc) := K1.out.cell 1
  go_wp2_with fail
  refine (HF.out _ B1.out).mono ?_
  rintro e w1 ⟨⟨few, rfl, hfew⟩, hb⟩
  clear cK0 cK1
  have B2 := Lib.hid (B1.out.trans (hb.mono B1.out.size))
  have K2 := Lib.hid (K1.out.below hb K1.out.lt)
  have hz2 := B2.out.size
  clear hb B1 K1 hz1
  have hsK2 := K2.out.lt
  clear hsK1
  cases few with
  | false =>
    go_wp2_with fail
    go_ret
    exact HNO.out _ B2.out
  | true =>
    have hs := hfew rfl
    have cK0 : w1.cell? ⟨w.heap.size, 0, none⟩ = some (.slice SA sn sc) := K2.out.cell 0
    have cK1 : w1.cell? ⟨w.heap.size, 1, none⟩ = some (.slice CA n cc) := K2.out.cell 1
    go_wp2_with fail
    refine (H14.out hs _ B2.out).mono ?_
    rintro e w2 ⟨rfl, hb⟩
    clear cK0 cK1
    have B3 := Lib.hid (B2.out.trans (hb.mono B2.out.size))
    have K3 := Lib.hid (K2.out.below hb K2.out.lt)
    have hz3 := B3.out.size
    clear hb B2 K2 hz2
    have hsK3 := K3.out.lt
    clear hsK2
    by_cases hE : E = 0
    · have HE := Lib.hid hE
      subst hE
      by_cases hm : 60 < m
      · have hm' : (60 : Int) < m := by omega
        go_wp2_with fail
        go_ret
        exact HNO.out _ B3.out
      have hm' : (m : Int) ≤ 60 := by omega
      have cK0 : w2.cell? ⟨w.heap.size, 0, none⟩ = some (.slice SA sn sc) := K3.out.cell 0
      have cK1 : w2.cell? ⟨w.heap.size, 1, none⟩ = some (.slice CA n cc) := K3.out.cell 1
      go_wp2_with fail
      refine (H31.out hs (by omega) _ B3.out).mono ?_
      rintro e w3 ⟨rfl, hb⟩
      clear cK0 cK1
      have B4 := Lib.hid (B3.out.trans (hb.mono B3.out.size))
      have K4 := Lib.hid (K3.out.below hb K3.out.lt)
      have hz4 := B4.out.size
      clear hb B3 K3 hz3
      have hsK4 := K4.out.lt
      clear hsK3
      go_wp2_with fail
      go_ret
      exact ⟨HYES.out hs (by trivial) (by omega), B4.out⟩
    · have hE' : (E == 0) = false := by simpa using hE
      go_wp2_with fail
      go_ret
      exact HNO.out _ B3.out

set_option maxRecDepth 100000 in
set_option maxHeartbeats 4000000 in
theorem fortiori_5 {SA CA : Option Addr} {sn sc n cc : Nat} {S no hr wi : Nat → Int} {FA RA : Nat → Option Addr} {fn fc rn rc : Nat → Nat} {F R : Nat → Nat → Int} (B : Nat) (A : Option Addr) (m c : Nat) (l : Nat → Int) (less : Nat) (sd : Int) (w : World) (hn : n ≤ 9223372036854775807) (hv : less < 4294967296) (hB : B ≤ w.heap.size) (hr0 : RdK w B SA sn S CA n no hr wi FA fn fc F RA rn rc R) (hf : Rd w B A m (fun j => .int .i64 (l j))) :
    Calls Try.prog 5 #[(.agg #[.slice SA sn sc, .slice CA n cc]), .slice A m c, .int .u32 less, .int .u8 sd] w fun e w' => e = .returned (.bool true) ∧ Below w.heap.size w w' := by
  have HRT : Hid (∀ W, Below w.heap.size w W → Calls Try.prog 22 #[(.agg #[.slice SA sn sc, .slice CA n cc]), .slice A m c] W fun e w' => RtR (SmK sn n fn rn ∧ (chkE S sn n no hr wi fn F rn R) = 0 ∧ m ≤ 60 ∧ okS sn l m = true) e ∧ Below W.heap.size W w') := Lib.hid fun W h => right_22 B A m c l W hn (Nat.le_trans hB h.size) (hr0.below (h.mono hB)) (hf.below (h.mono hB))
  obtain ⟨FL, hFL⟩ : ∃ FL : Int → List Int, FL = fun x => favL S l m x := ⟨_, rfl⟩
  obtain ⟨bo, hbo⟩ : ∃ bo : Nat → Bool, bo = fun (t : Nat) => (fstB (bndP S sn wi fn F rn R l m (t : Int)) 0 n).isSome := ⟨_, rfl⟩
  obtain ⟨mo, hmo⟩ : ∃ mo : Int → List Int → Bool, mo = fun x L => (fstB (mayP wi fn F rn R l m (ixL L) L.length x) 0 n).isNone := ⟨_, rfl⟩
  obtain ⟨bi, hbi⟩ : ∃ bi : Nat → Int, bi = fun (t : Nat) => (((fstB (bndP S sn wi fn F rn R l m (t : Int)) 0 n).getD 0 : Nat) : Int) := ⟨_, rfl⟩
  obtain ⟨mi, hmi⟩ : ∃ mi : Int → List Int → Int, mi = fun x L => (((fstB (mayP wi fn F rn R l m (ixL L) L.length x) 0 n).getD 0 : Nat) : Int) := ⟨_, rfl⟩
  have HALL : Hid ((SmK sn n fn rn ∧ (chkE S sn n no hr wi fn F rn R) = 0 ∧ m ≤ 60 ∧ okS sn l m = true) →
      (∀ t : Nat, t < 2 → ∀ W, Below w.heap.size w W → Calls Try.prog 15 #[(.agg #[.slice SA sn sc, .slice CA n cc]), .slice A m c, .int .i64 t] W fun e w' => e = .returned (.tuple #[.int .i64 (bi t), .bool (bo t), .int .i64 0]) ∧ Below W.heap.size W w') ∧
      (∀ x W, Below w.heap.size w W → Calls Try.prog 23 #[(.agg #[.slice SA sn sc, .slice CA n cc]), .slice A m c, .int .i64 x] W fun e w' => (∃ A' k' c', e = .returned (.slice A' k' c') ∧ k' = (FL x).length ∧ Rd w' w'.heap.size A' k' (fun j => .int .i64 (ixL (FL x) j))) ∧ Below W.heap.size W w') ∧
      (∀ x, x = 0 ∨ x = 1 → ∀ L A' c' W, Below w.heap.size w W → reaB S sn l m (ixL L) L.length x = true → L.length ≤ 60 → Rd W W.heap.size A' L.length (fun j => .int .i64 (ixL L j)) → Calls Try.prog 17 #[(.agg #[.slice SA sn sc, .slice CA n cc]), .slice A m c, .slice A' L.length c', .int .i64 x] W fun e w' => e = .returned (.tuple #[.int .i64 (mi x L), .bool (mo x L), .int .i64 0]) ∧ Below W.heap.size W w') ∧
      (∀ (t : Nat) x, t < 2 → x = 1 - (t : Int) → bo t = !(mo x (FL x))) ∧
      (∀ x, x = 0 ∨ x = 1 → mo x (picks less (FL x)) = true → mo x (FL x) = true) ∧
      (∀ x, (reaB S sn l m (ixL (FL x)) (FL x).length x = true ∧ (FL x).length ≤ 60) ∧ reaB S sn l m (ixL (picks less (FL x))) (picks less (FL x)).length x = true ∧ (FL x).length ≤ 32)) := Lib.hid fun ⟨hs, h0, hm, hl⟩ => by
    have hask : ∀ x : Int, x = 0 ∨ x = 1 → askE (chkE S sn n no hr wi fn F rn R) sn l m x = 0 := fun x hx => by
      rw [askE, if_neg (by rw [h0]; simp), if_neg (by rw [hl]; simp), if_neg (by rw [inB_iff.2 (by omega)]; simp)]
    have h32 := (book_at h0).1
    refine ⟨fun t ht W h => ?_, fun x W h => ?_, fun x hx L A' c' W h hre hL hrd => ?_, fun t x ht hx => ?_, fun x hx hp => ?_, fun x => ?_⟩
    · have h1 := Binds_15 (sc := sc) (cc := cc) B A m c l t W hs (by omega) (Nat.le_trans hB h.size) (hr0.below (h.mono hB)) (hf.below (h.mono hB))
      rw [hask t (by omega)] at h1
      refine h1.mono fun e w' h2 => ⟨?_, h2.2⟩
      rw [h2.1, hbo, hbi]
      simp [bdV]
    · have h1 := Favour_23 SA CA A sn sc n cc m c B S l x W (by omega) (Nat.le_trans hB h.size) (hr0.below (h.mono hB)).1 (hf.below (h.mono hB)) (fun k hk => (okS_at m hl k hk).1)
      rw [hFL]
      exact h1
    · have hz := h.size
      have h1 := May_17 (sc := sc) (cc := cc) W.heap.size A A' m c L.length c' l (ixL L) x W hs (by omega) (by omega) (Nat.le_refl _) ((hr0.below (h.mono hB)).mono (Nat.le_trans hB hz)) ((hf.below (h.mono hB)).mono (Nat.le_trans hB hz)) hrd
      rw [hask x hx, mayE, if_neg (by simp), if_pos hre] at h1
      refine h1.mono fun e w' h2 => ⟨?_, h2.2⟩
      rw [h2.1, hmo, hmi]
      simp [myV]
    · rw [hbo, hmo, hFL, hx]
      simp only
      rw [fortiori_eq h0 hl (by omega), some_not_none, Bool.not_not]
    · rw [hmo, hFL] at hp ⊢
      simp only at hp ⊢
      exact fewer_may h0 hl (ok_of_rea (rea_all hl)) (ok_of_rea (rea_picks hl less)) (fun z hz => picks_sub hz) hp
    · rw [hFL]
      simp only
      have hq := favL_len (S := S) (l := l) (m := m) (x := x)
      have h3 := okS_len (by omega) (ok_of_rea (rea_all (S := S) (x := x) hl))
      exact ⟨⟨rea_all hl, by omega⟩, rea_picks hl less, by omega⟩
  clear hr0 hf hFL hbo hmo hbi hmi
  go_enter Try.func5, Try.ntmps5
  go_upto_region 1 with fail
  obtain ⟨w0, hbx⟩ : ∃ zz, zz = w.alloc (.cells #[.slice SA sn sc, .slice CA n cc] 25) := ⟨_, rfl⟩
  have NK : Blk w0 (w.heap.size) 25 #[.slice SA sn sc, .slice CA n cc] := hbx ▸ ((Blk.new' rfl))
  have hb : Below w.heap.size w w0 := by rw [hbx]; (repeat (first | exact Below.refl _ _ | exact below_alloc _ _ | refine Below.alloc ?_ (by simp; omega) _ | refine Below.alloc ?_ (by simp) _))
  rw [← hbx]
  clear hbx
  have B1 := Lib.hid (show Below w.heap.size w w0 from hb)
  have hz1 := B1.out.size
  clear hb 
  have K1 := Lib.hid NK
  clear NK
  have hsK1 := K1.out.lt
  go_wp2_with fail
  refine (sane_9 _).mono ?_
  rintro e w1 ⟨rfl, hb⟩
  have B2 := Lib.hid (B1.out.trans (hb.mono B1.out.size))
  have K2 := Lib.hid (K1.out.below hb K1.out.lt)
  have hz2 := B2.out.size
  clear hb B1 K1 hz1
  have hsK2 := K2.out.lt
  clear hsK1
  have cK0 : w1.cell? ⟨w.heap.size, 0, none⟩ = some (.slice SA sn sc) := K2.out.cell 0
  have cK1 : w1.cell? ⟨w.heap.size, 1, none⟩ = some (.slice CA n cc) := K2.out.cell 1
  go_wp2_with fail
  refine (HRT.out _ B2.out).mono ?_
  rintro e w2 ⟨⟨rt, rfl, hrt⟩, hb⟩
  clear cK0 cK1
  have B3 := Lib.hid (B2.out.trans (hb.mono B2.out.size))
  have K3 := Lib.hid (K2.out.below hb K2.out.lt)
  have hz3 := B3.out.size
  clear hb B2 K2 hz2
  have hsK3 := K3.out.lt
  clear hsK2
  cases rt with
  | false =>
    go_wp2_with fail
    go_ret
    exact ⟨rfl, B3.out⟩
  | true =>
    obtain ⟨hB1, hFV, hMY, hEQ, hFW, hln⟩ := HALL.out (hrt rfl)
    have HB1 := Lib.hid hB1
    have HFV := Lib.hid hFV
    have HMY := Lib.hid hMY
    have HEQ := Lib.hid hEQ
    have HFW := Lib.hid hFW
    have HLN := Lib.hid hln
    clear HALL hrt hB1 hFV hMY hEQ hFW hln HRT
    obtain ⟨i0, hi, hi0, hi1, hi2⟩ := info_parts info3
    go_wp2_with fail
    go_loopw [29] (fun i wr => ∃ t : Nat, t ≤ 2 ∧ i = .int .i64 t ∧ Below w2.heap.size w2 wr) (fun i _ => 2 - (intOf i).toNat)
    case atStart => exact ⟨0, Nat.zero_le _, rfl, Below.refl _ _⟩
    case round =>
      obtain ⟨t, ht, rfl, hb⟩ := hrel
      have B4 := Lib.hid (B3.out.trans (hb.mono B3.out.size))
      have C4 := Lib.hid (show Below w2.heap.size w2 wr from hb)
      have K4 := Lib.hid (K3.out.below hb K3.out.lt)
      have hz4 := B4.out.size
      clear hb B3 K3 hz3
      have hsK4 := K4.out.lt
      clear hsK3
      by_cases hlt : t < 2
      · have hlt' : (t : Int) < 2 := by omega
        obtain ⟨x, hx⟩ : ∃ x : Int, x = 1 - (t : Int) := ⟨_, rfl⟩
        have hx01 : x = 0 ∨ x = 1 := by omega
        have hwx : IntKind.i64.wrap (1 - (t : Int)) = x := by rw [hx]; exact IntWalk.i64_in _ ⟨by omega, by omega⟩
        have HE1 := Lib.hid (HEQ.out t x hlt hx)
        have HB1t := Lib.hid (HB1.out t hlt)
        have HFVx := Lib.hid (HFV.out x)
        have HMYx := Lib.hid (HMY.out x hx01)
        have HFWx := Lib.hid (HFW.out x hx01)
        have HLNx := Lib.hid (HLN.out x)
        clear HEQ HFV HMY HFW HLN hx
        generalize FL x = L at HE1 HFVx HFWx HLNx
        rw [HE1.out] at HB1t
        have cK0 : wr.cell? ⟨w.heap.size, 0, none⟩ = some (.slice SA sn sc) := K4.out.cell 0
        have cK1 : wr.cell? ⟨w.heap.size, 1, none⟩ = some (.slice CA n cc) := K4.out.cell 1
        go_wp2_with fail
        refine (HB1t.out _ B4.out).mono ?_
        rintro e v1 ⟨rfl, hb⟩
        clear cK0 cK1
        have B5 := Lib.hid (B4.out.trans (hb.mono B4.out.size))
        have C5 := Lib.hid (C4.out.trans (hb.mono C4.out.size))
        have K5 := Lib.hid (K4.out.below hb K4.out.lt)
        have hz5 := B5.out.size
        clear hb B4 C4 K4 hz4
        have hsK5 := K5.out.lt
        clear hsK4
        have cK0 : v1.cell? ⟨w.heap.size, 0, none⟩ = some (.slice SA sn sc) := K5.out.cell 0
        have cK1 : v1.cell? ⟨w.heap.size, 1, none⟩ = some (.slice CA n cc) := K5.out.cell 1
        go_wp2_with fail
        refine (HFVx.out _ B5.out).mono ?_
        rintro e v2 ⟨⟨A1, k1, c1, rfl, hk1, hrd⟩, hb⟩
        clear cK0 cK1
        have B6 := Lib.hid (B5.out.trans (hb.mono B5.out.size))
        have C6 := Lib.hid (C5.out.trans (hb.mono C5.out.size))
        have K6 := Lib.hid (K5.out.below hb K5.out.lt)
        have hz6 := B6.out.size
        clear hb B5 C5 K5 hz5
        have hsK6 := K6.out.lt
        clear hsK5
        obtain rfl := hk1
        have X6 := Lib.hid hrd
        clear hrd
        obtain ⟨hre, hpk, hl32⟩ := HLNx.out
        have cK0 : v2.cell? ⟨w.heap.size, 0, none⟩ = some (.slice SA sn sc) := K6.out.cell 0
        have cK1 : v2.cell? ⟨w.heap.size, 1, none⟩ = some (.slice CA n cc) := K6.out.cell 1
        go_wp2_with fail
        refine (HMYx.out L A1 c1 _ B6.out hre.1 hre.2 X6.out).mono ?_
        rintro e v3 ⟨rfl, hb⟩
        clear cK0 cK1
        have B7 := Lib.hid (B6.out.trans (hb.mono B6.out.size))
        have C7 := Lib.hid (C6.out.trans (hb.mono C6.out.size))
        have K7 := Lib.hid (K6.out.below hb K6.out.lt)
        have X7 := Lib.hid (rd_step X6.out hb)
        have hz7 := B7.out.size
        clear hb B6 C6 K6 X6 hz6
        have hsK7 := K7.out.lt
        clear hsK6
        generalize hmo : mo x L = mv
        have HMV := Lib.hid hmo
        clear hmo HE1 HB1t HFVx
        have hsz0 := B7.out.size
        go_wp2_with fail
        go_loopw [17, 68] (fun v i wr => ∃ k : Nat, k ≤ L.length ∧ i = .int .i64 k ∧ wr.ownsRow v3.heap.size 3 1 v (pickL less (ixL L) k).length (rowL (pickL less (ixL L) k)) ∧ Below v3.heap.size v3 wr) (fun _ i _ => L.length - (intOf i).toNat)
        case atStart => exact ⟨0, Nat.zero_le _, rfl, World.ownsRow_nil _ _ _ _, Below.refl _ _⟩
        case round =>
          obtain ⟨k, hk, rfl, hO, hb⟩ := hrel
          obtain ⟨A3, c3, hve⟩ := own_form hO
          subst hve
          have HO := Lib.hid hO
          have HBL := Lib.hid hb
          have hz5 := hb.size
          have hlen := pickL_len less (ixL L) k
          clear hO hb
          by_cases hlk : k < L.length
          · have hlk' : (k : Int) < L.length := by omega
            have hk32 : (k : Int) < 32 := by omega
            obtain ⟨b, off, e, _, cs⟩ := (X7.out.below HBL.out) (by omega)
            have ck := cs k hlk
            subst e
            clear cs
            cases h1 : less.testBit k
            · have HS1 := Lib.hid (pickL_skip (f := ixL L) h1)
              have hb0 := bit32_zero hv h1
              clear h1
              go_wp2_with fail
              go_roundw
              case rel => exact ⟨k + 1, by omega, by go_num, by rw [HS1.out]; exact HO.out, HBL.out⟩
              case measure => simp [intOf]; omega
            · have HS1 := Lib.hid (pickL_take (f := ixL L) h1)
              have hb0 := bit32_one hv h1
              clear h1
              generalize hK : (pickL less (ixL L) k).length = K at HO hlen ⊢
              go_wp2_with (at_builtin; refine wpList_append_own_at _ rfl _ _ 22 rfl v3.heap.size 3 i0 (.int .i64 0) 1 8 Try.underlying22 hi hi0 hi1 hi2 rfl (by decide) (.slice A3 K c3) K (rowL (pickL less (ixL L) k)) rfl (HO.out.alloc _) ⟨_, 0, none⟩ 1 1 [.int .i64 (ixL L k)] rfl rfl (one_new _ _ _) (one_one _) (by unfold maxLen; omega) (by omega) (by simp; omega) ?_; intro vv w8 hown8 hgrow8 _ _; obtain ⟨A4, c4, hvv4⟩ := own_form hown8; subst hvv4)
              go_roundw
              case rel => exact ⟨k + 1, by omega, by go_num, by rw [HS1.out, List.length_append, hK, ← rowL_snoc]; exact hown8, (HBL.out.alloc (by omega) _).grown hgrow8 (by simp; omega) (fun q e => (HO.out.lt q e).1)⟩
              case measure => simp [intOf]; omega
          · obtain rfl : k = L.length := by omega
            have hrd : Rd wr wr.heap.size A3 (picks less L).length (fun j => .int .i64 (ixL (picks less L) j)) := by
              have := Rd.of_own HO.out (fun j hj => rowL_at _ j hj); rwa [Nat.mul_one] at this
            have hb := HBL.out
            have B8 := Lib.hid (B7.out.trans (hb.mono B7.out.size))
            have C8 := Lib.hid (C7.out.trans (hb.mono C7.out.size))
            have D8 := Lib.hid (show Below v3.heap.size v3 wr from hb)
            have K8 := Lib.hid (K7.out.below hb K7.out.lt)
            have X8 := Lib.hid (rd_step X7.out hb)
            have hz8 := B8.out.size
            clear hb B7 C7 K7 X7 hz7
            have hsK8 := K8.out.lt
            clear hsK7
            have Z8 := Lib.hid hrd
            clear hrd
            clear HO HBL hz5
            have HPL : Hid ((picks less L).length ≤ 60) := Lib.hid (by have := pickL_len less (ixL L) L.length; unfold picks; omega)
            have cK0 : wr.cell? ⟨w.heap.size, 0, none⟩ = some (.slice SA sn sc) := K8.out.cell 0
            have cK1 : wr.cell? ⟨w.heap.size, 1, none⟩ = some (.slice CA n cc) := K8.out.cell 1
            go_wp2_with fail
            refine (HMYx.out (picks less L) A3 c3 _ B8.out hpk HPL.out Z8.out).mono ?_
            rintro e v5 ⟨rfl, hb⟩
            clear cK0 cK1
            have B9 := Lib.hid (B8.out.trans (hb.mono B8.out.size))
            have C9 := Lib.hid (C8.out.trans (hb.mono C8.out.size))
            have D9 := Lib.hid (D8.out.trans (hb.mono D8.out.size))
            have K9 := Lib.hid (K8.out.below hb K8.out.lt)
            have X9 := Lib.hid (rd_step X8.out hb)
            have Z9 := Lib.hid (rd_step Z8.out hb)
            have hz9 := B9.out.size
            clear hb B8 C8 D8 K8 X8 Z8 hz8
            have hsK9 := K9.out.lt
            clear hsK8
            have HFX := Lib.hid HFWx.out
            rw [HMV.out] at HFX
            generalize mo x (picks less L) = pv at HFX ⊢
            generalize mi x (picks less L) = pi
            have hnv : pv = true → mv = true := HFX.out
            clear HFX
            cases mv with
            | true =>
              cases pv
              · go_wp2_with fail
                go_roundw
                case rel => exact ⟨t + 1, by omega, by go_num, C9.out⟩
                case measure => simp [intOf]; omega
              · go_wp2_with fail
                go_roundw
                case rel => exact ⟨t + 1, by omega, by go_num, C9.out⟩
                case measure => simp [intOf]; omega
            | false =>
              obtain rfl : pv = false := by simpa using hnv
              go_wp2_with fail
              go_roundw
              case rel => exact ⟨t + 1, by omega, by go_num, C9.out⟩
              case measure => simp [intOf]; omega
      · obtain rfl : t = 2 := by omega
        go_wp2_with fail
        go_ret
        exact ⟨rfl, B4.out⟩
theorem fortiori_row {SA CA : Option Addr} {sn sc n cc : Nat} {S no hr wi : Nat → Int} {FA RA : Nat → Option Addr} {fn fc rn rc : Nat → Nat} {F R : Nat → Nat → Int} (B : Nat) (A : Option Addr) (m c : Nat) (l : Nat → Int) (less sd : Int) (w : World) (hn : n ≤ 9223372036854775807) (hv : 0 ≤ less ∧ less ≤ 4294967295) (hB : B ≤ w.heap.size) (hr0 : RdK w B SA sn S CA n no hr wi FA fn fc F RA rn rc R) (hf : Rd w B A m (fun j => .int .i64 (l j))) :
    Calls Try.prog 5 #[(.agg #[.slice SA sn sc, .slice CA n cc]), .slice A m c, .int .u32 less, .int .u8 sd] w fun e w' => e = .returned (.bool true) ∧ Below w.heap.size w w' := by
  obtain ⟨v, rfl⟩ : ∃ v : Nat, less = v := ⟨less.toNat, by omega⟩
  exact fortiori_5 B A m c l v sd w hn (by omega) hB hr0 hf
end Go.Proofs.Ytbojjhdcmogjdaa
