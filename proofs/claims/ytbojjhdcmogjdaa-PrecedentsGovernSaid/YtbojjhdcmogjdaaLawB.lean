/- Contract of the law PrecedentsBindsSpec: it returns true for every input. -/
import Derived.Test.YtbojjhdcmogjdaaLawA
namespace Go.Proofs.Ytbojjhdcmogjdaa
open Go.RowKit

theorem bdV_form (E : Int) (o : Option Nat) : ∃ (a : Int) (b : Bool), bdV E o = .tuple #[.int .i64 a, .bool b, .int .i64 E] := ⟨_, _, rfl⟩
theorem myV_form (E : Int) (o : Option Nat) : ∃ (a : Int) (b : Bool), myV E o = .tuple #[.int .i64 a, .bool b, .int .i64 E] := ⟨_, _, rfl⟩
theorem DisR.same {L L' : List Int} {d d' : Bool} {E : Int} {e : Ending} {w : World} (h : E = 0 → L = L' ∧ d = d') (hr : DisR L d E e w) : DisR L' d' E e w := by
  by_cases hE : E = 0
  · obtain ⟨rfl, rfl⟩ := h hE; exact hr
  · obtain ⟨A, k, c, h1, h2, h3⟩ := hr
    rw [if_neg hE] at h2
    subst h2
    exact ⟨A, 0, c, by rw [h1]; simp [hE], by rw [if_neg hE], Rd.nil⟩
theorem rd_step' {w w' : World} {A : Option Addr} {n : Nat} {f : Nat → Value} (h : Rd w w.heap.size A n f) (hb : Below w.heap.size w w') : Rd w' w'.heap.size A n f := rd_step h hb

set_option maxRecDepth 100000 in
set_option maxHeartbeats 4000000 in
theorem bindsSpec_4 {SA CA : Option Addr} {sn sc n cc : Nat} {S no hr wi : Nat → Int} {FA RA : Nat → Option Addr} {fn fc rn rc : Nat → Nat} {F R : Nat → Nat → Int} (B : Nat) (A A' : Option Addr) (m c k c' : Nat) (l q : Nat → Int) (side at_ : Int) (w : World) (hn : n ≤ 9223372036854775807) (hB : B ≤ w.heap.size) (hr0 : RdK w B SA sn S CA n no hr wi FA fn fc F RA rn rc R) (hf : Rd w B A m (fun j => .int .i64 (l j))) (hq : Rd w B A' k (fun j => .int .i64 (q j))) :
    Calls Try.prog 4 #[(.agg #[.slice SA sn sc, .slice CA n cc]), .slice A m c, .slice A' k c', .int .i64 side, .int .i64 at_] w fun e w' => e = .returned (.bool true) ∧ Below w.heap.size w w' := by
  have HF : Hid (∀ W, Below w.heap.size w W → Calls Try.prog 10 #[(.agg #[.slice SA sn sc, .slice CA n cc])] W fun e w' => (∃ b, e = .returned (.bool b) ∧ (b = true → SmK sn n fn rn)) ∧ Below W.heap.size W w') := Lib.hid fun W h => Few_10 B W hn (Nat.le_trans hB h.size) (hr0.below (h.mono hB))
  obtain ⟨a1, a2, hv⟩ := bdV_form (askE (chkE S sn n no hr wi fn F rn R) sn l m side) (fstB (bndP S sn wi fn F rn R l m side) 0 n)
  obtain ⟨b1, b2, hu⟩ := myV_form (mayE (askE (chkE S sn n no hr wi fn F rn R) sn l m side) S sn l m q k side) (fstB (mayP wi fn F rn R l m q k side) 0 n)
  have H15 : Hid (SmK sn n fn rn → m ≤ 1000 → ∀ W, Below w.heap.size w W → Calls Try.prog 15 #[(.agg #[.slice SA sn sc, .slice CA n cc]), .slice A m c, .int .i64 side] W fun e w' => e = .returned (.tuple #[.int .i64 a1, .bool a2, .int .i64 (askE (chkE S sn n no hr wi fn F rn R) sn l m side)]) ∧ Below W.heap.size W w') := Lib.hid fun hs hm W h => by
    rw [← hv]; exact Binds_15 B A m c l side W hs hm (Nat.le_trans hB h.size) (hr0.below (h.mono hB)) (hf.below (h.mono hB))
  have H16 : Hid (SmK sn n fn rn → m ≤ 1000 → ∀ W, Below w.heap.size w W → Calls Try.prog 16 #[(.agg #[.slice SA sn sc, .slice CA n cc]), .slice A m c, .int .i64 side] W fun e w' => e = .returned (.tuple #[.int .i64 a1, .bool a2, .int .i64 (askE (chkE S sn n no hr wi fn F rn R) sn l m side)]) ∧ Below W.heap.size W w') := Lib.hid fun hs hm W h => by
    rw [← hv, bd_same]; exact ref_Binds_16 B A m c l side W hs hm (Nat.le_trans hB h.size) (hr0.below (h.mono hB)) (hf.below (h.mono hB))
  have H17 : Hid (SmK sn n fn rn → m ≤ 1000 → k ≤ 1000 → ∀ W, Below w.heap.size w W → Calls Try.prog 17 #[(.agg #[.slice SA sn sc, .slice CA n cc]), .slice A m c, .slice A' k c', .int .i64 side] W fun e w' => e = .returned (.tuple #[.int .i64 b1, .bool b2, .int .i64 (mayE (askE (chkE S sn n no hr wi fn F rn R) sn l m side) S sn l m q k side)]) ∧ Below W.heap.size W w') := Lib.hid fun hs hm hk W h => by
    rw [← hu]; exact May_17 B A A' m c k c' l q side W hs hm hk (Nat.le_trans hB h.size) (hr0.below (h.mono hB)) (hf.below (h.mono hB)) (hq.below (h.mono hB))
  have H18 : Hid (SmK sn n fn rn → m ≤ 1000 → k ≤ 1000 → ∀ W, Below w.heap.size w W → Calls Try.prog 18 #[(.agg #[.slice SA sn sc, .slice CA n cc]), .slice A m c, .slice A' k c', .int .i64 side] W fun e w' => e = .returned (.tuple #[.int .i64 b1, .bool b2, .int .i64 (mayE (askE (chkE S sn n no hr wi fn F rn R) sn l m side) S sn l m q k side)]) ∧ Below W.heap.size W w') := Lib.hid fun hs hm hk W h => by
    rw [← hu, my_same]; exact ref_May_18 B A A' m c k c' l q side W hs hm hk (Nat.le_trans hB h.size) (hr0.below (h.mono hB)) (hf.below (h.mono hB)) (hq.below (h.mono hB))
  obtain ⟨L, hL⟩ : ∃ L, L = fltL (misP S (wi at_.toNat) (F at_.toNat) (fn at_.toNat)) l m := ⟨_, rfl⟩
  obtain ⟨dd, hdd⟩ : ∃ dd, dd = (decide (disE (askE (chkE S sn n no hr wi fn F rn R) sn l m 0) n at_ = 0) && (decide ((fltL (misP S (wi at_.toNat) (F at_.toNat) (fn at_.toNat)) l m).length ≠ 0) && allB (R at_.toNat) l m (rn at_.toNat))) := ⟨_, rfl⟩
  obtain ⟨kk, hkk⟩ : ∃ kk, kk = (if disE (askE (chkE S sn n no hr wi fn F rn R) sn l m 0) n at_ = 0 then L.length else 0) := ⟨_, rfl⟩
  have H19 : Hid (SmK sn n fn rn → m ≤ 1000 → ∀ W, Below w.heap.size w W → Calls Try.prog 19 #[(.agg #[.slice SA sn sc, .slice CA n cc]), .int .i64 at_, .slice A m c] W fun e w' => (∃ A' k' c', e = .returned (.tuple #[.slice A' k' c', .bool dd, .int .i64 (disE (askE (chkE S sn n no hr wi fn F rn R) sn l m 0) n at_)]) ∧ k' = kk ∧ Rd w' w'.heap.size A' k' (fun j => .int .i64 (L.getD j 0))) ∧ Below W.heap.size W w') := Lib.hid fun hs hm W h => by
    rw [hdd, hkk, hL]
    exact (Dist_19 B A m c l at_ W hs hm (Nat.le_trans hB h.size) (hr0.below (h.mono hB)) (hf.below (h.mono hB))).mono fun e w' h2 => ⟨DisR.same (fun h0 => dis_same h0) h2.1.1, h2.2⟩
  have H20 : Hid (SmK sn n fn rn → m ≤ 1000 → ∀ W, Below w.heap.size w W → Calls Try.prog 20 #[(.agg #[.slice SA sn sc, .slice CA n cc]), .int .i64 at_, .slice A m c] W fun e w' => (∃ A' k' c', e = .returned (.tuple #[.slice A' k' c', .bool dd, .int .i64 (disE (askE (chkE S sn n no hr wi fn F rn R) sn l m 0) n at_)]) ∧ k' = kk ∧ Rd w' w'.heap.size A' k' (fun j => .int .i64 (L.getD j 0))) ∧ Below W.heap.size W w') := Lib.hid fun hs hm W h => by
    rw [hdd, hkk, hL]
    exact ref_Dist_20 B A m c l at_ W hs hm (Nat.le_trans hB h.size) (hr0.below (h.mono hB)) (hf.below (h.mono hB))
  have hkl : kk ≤ m := by
    rw [hkk, hL]
    split
    · exact fltL_len _ _ _
    · omega
  clear hr0 hf hq hv hu hL hdd hkk
  generalize mayE (askE (chkE S sn n no hr wi fn F rn R) sn l m side) S sn l m q k side = E2 at H17 H18
  generalize disE (askE (chkE S sn n no hr wi fn F rn R) sn l m 0) n at_ = E3 at H19 H20
  generalize askE (chkE S sn n no hr wi fn F rn R) sn l m side = E1 at H15 H16
  obtain ⟨Lf, hLf⟩ : ∃ Lf, Lf = fun j => L.getD j 0 := ⟨_, rfl⟩
  have e : (fun j => Value.int .i64 (L.getD j 0)) = fun j => .int .i64 (Lf j) := by rw [hLf]
  rw [e] at H19 H20
  clear e hLf
  go_enter Try.func4, Try.ntmps4
  go_upto_region 1 with fail
  obtain ⟨w0, hbx⟩ : ∃ zz, zz = w.alloc (.cells #[.slice SA sn sc, .slice CA n cc] 25) := ⟨_, rfl⟩
  have NK : Blk w0 (w.heap.size) 25 #[.slice SA sn sc, .slice CA n cc] := hbx ▸ ((Blk.new' rfl))
  have hb : Below w.heap.size w w0 := by rw [hbx]; (repeat (first | exact Below.refl _ _ | exact below_alloc _ _ | refine Below.alloc ?_ (by simp; omega) _ | refine Below.alloc ?_ (by simp) _))
  rw [← hbx]
  clear hbx
  have B1 := Lib.hid (show Below w.heap.size w w0 from hb)
  have hz1 := B1.out.size
  clear hb 
  have K1 := Lib.hid NK
  clear NK
  have hsK1 := K1.out.lt
  go_wp2_with fail
  refine (sane_9 _).mono ?_
  rintro e w1 ⟨rfl, hb⟩
  have B2 := Lib.hid (B1.out.trans (hb.mono B1.out.size))
  have K2 := Lib.hid (K1.out.below hb K1.out.lt)
  have hz2 := B2.out.size
  clear hb B1 K1 hz1
  have hsK2 := K2.out.lt
  clear hsK1
  have cK0 : w1.cell? ⟨w.heap.size, 0, none⟩ = some (.slice SA sn sc) := K2.out.cell 0
  have cK1 : w1.cell? ⟨w.heap.size, 1, none⟩ = some (.slice CA n cc) := K2.out.cell 1
  go_wp2_with fail
  refine (HF.out _ B2.out).mono ?_
  rintro e w2 ⟨⟨few, rfl, hfew⟩, hb⟩
  clear cK0 cK1
  have B3 := Lib.hid (B2.out.trans (hb.mono B2.out.size))
  have K3 := Lib.hid (K2.out.below hb K2.out.lt)
  have hz3 := B3.out.size
  clear hb B2 K2 hz2
  have hsK3 := K3.out.lt
  clear hsK2
  cases few with
  | false =>
    go_wp2_with fail
    go_ret
    exact ⟨rfl, B3.out⟩
  | true =>
    have hs := hfew rfl
    by_cases hm : 60 < m
    · have hm' : (60 : Int) < m := by omega
      go_wp2_with fail
      go_ret
      exact ⟨rfl, B3.out⟩
    by_cases hk : 60 < k
    · have hm' : (m : Int) ≤ 60 := by omega
      have hk' : (60 : Int) < k := by omega
      go_wp2_with fail
      go_ret
      exact ⟨rfl, B3.out⟩
    have hm' : (m : Int) ≤ 60 := by omega
    have hk' : (k : Int) ≤ 60 := by omega
    have h15 := Lib.hid (H15.out hs (by omega))
    have h16 := Lib.hid (H16.out hs (by omega))
    have h17 := Lib.hid (H17.out hs (by omega) (by omega))
    have h18 := Lib.hid (H18.out hs (by omega) (by omega))
    have h19 := Lib.hid (H19.out hs (by omega))
    have h20 := Lib.hid (H20.out hs (by omega))
    clear H15 H16 H17 H18 H19 H20 HF hs hfew hm hk
    have cK0 : w2.cell? ⟨w.heap.size, 0, none⟩ = some (.slice SA sn sc) := K3.out.cell 0
    have cK1 : w2.cell? ⟨w.heap.size, 1, none⟩ = some (.slice CA n cc) := K3.out.cell 1
    go_wp2_with fail
    refine (h15.out _ B3.out).mono ?_
    rintro e w3 ⟨rfl, hb⟩
    clear cK0 cK1
    have B4 := Lib.hid (B3.out.trans (hb.mono B3.out.size))
    have K4 := Lib.hid (K3.out.below hb K3.out.lt)
    have hz4 := B4.out.size
    clear hb B3 K3 hz3
    have hsK4 := K4.out.lt
    clear hsK3
    have cK0 : w3.cell? ⟨w.heap.size, 0, none⟩ = some (.slice SA sn sc) := K4.out.cell 0
    have cK1 : w3.cell? ⟨w.heap.size, 1, none⟩ = some (.slice CA n cc) := K4.out.cell 1
    go_wp2_with fail
    refine (h16.out _ B4.out).mono ?_
    rintro e w4 ⟨rfl, hb⟩
    clear cK0 cK1
    have B5 := Lib.hid (B4.out.trans (hb.mono B4.out.size))
    have K5 := Lib.hid (K4.out.below hb K4.out.lt)
    have hz5 := B5.out.size
    clear hb B4 K4 hz4
    have hsK5 := K5.out.lt
    clear hsK4
    have cK0 : w4.cell? ⟨w.heap.size, 0, none⟩ = some (.slice SA sn sc) := K5.out.cell 0
    have cK1 : w4.cell? ⟨w.heap.size, 1, none⟩ = some (.slice CA n cc) := K5.out.cell 1
    go_wp2_with fail
    refine (h17.out _ B5.out).mono ?_
    rintro e w5 ⟨rfl, hb⟩
    clear cK0 cK1
    have B6 := Lib.hid (B5.out.trans (hb.mono B5.out.size))
    have K6 := Lib.hid (K5.out.below hb K5.out.lt)
    have hz6 := B6.out.size
    clear hb B5 K5 hz5
    have hsK6 := K6.out.lt
    clear hsK5
    have cK0 : w5.cell? ⟨w.heap.size, 0, none⟩ = some (.slice SA sn sc) := K6.out.cell 0
    have cK1 : w5.cell? ⟨w.heap.size, 1, none⟩ = some (.slice CA n cc) := K6.out.cell 1
    go_wp2_with fail
    refine (h18.out _ B6.out).mono ?_
    rintro e w6 ⟨rfl, hb⟩
    clear cK0 cK1
    have B7 := Lib.hid (B6.out.trans (hb.mono B6.out.size))
    have K7 := Lib.hid (K6.out.below hb K6.out.lt)
    have hz7 := B7.out.size
    clear hb B6 K6 hz6
    have hsK7 := K7.out.lt
    clear hsK6
    have cK0 : w6.cell? ⟨w.heap.size, 0, none⟩ = some (.slice SA sn sc) := K7.out.cell 0
    have cK1 : w6.cell? ⟨w.heap.size, 1, none⟩ = some (.slice CA n cc) := K7.out.cell 1
    go_wp2_with fail
    refine (h19.out _ B7.out).mono ?_
    rintro e w7 ⟨⟨A1, k1, c1, rfl, hk1, hx⟩, hb⟩
    clear cK0 cK1
    have B8 := Lib.hid (B7.out.trans (hb.mono B7.out.size))
    have K8 := Lib.hid (K7.out.below hb K7.out.lt)
    have hz8 := B8.out.size
    clear hb B7 K7 hz7
    have hsK8 := K8.out.lt
    clear hsK7
    obtain rfl := hk1
    have X8 := Lib.hid hx
    clear hx
    have cK0 : w7.cell? ⟨w.heap.size, 0, none⟩ = some (.slice SA sn sc) := K8.out.cell 0
    have cK1 : w7.cell? ⟨w.heap.size, 1, none⟩ = some (.slice CA n cc) := K8.out.cell 1
    go_wp2_with fail
    refine (h20.out _ B8.out).mono ?_
    rintro e w8 ⟨⟨A2, k2, c2, rfl, hk2, hx⟩, hb⟩
    clear cK0 cK1
    have B9 := Lib.hid (B8.out.trans (hb.mono B8.out.size))
    have K9 := Lib.hid (K8.out.below hb K8.out.lt)
    have X9 := Lib.hid (rd_step X8.out hb)
    have hz9 := B9.out.size
    clear hb B8 K8 X8 hz8
    have hsK9 := K9.out.lt
    clear hsK8
    obtain rfl := hk2
    have Y9 := Lib.hid hx
    clear hx
    go_wp2_with fail
    refine (Same_21 A1 A2 _ c1 c2 w8.heap.size Lf _ (by omega) X9.out Y9.out).mono ?_
    rintro e w9 ⟨rfl, hq⟩
    have B9 := Lib.hid (below_quiet B9.out hq)
    clear hq
    go_wp2_with fail
    go_ret
    exact ⟨rfl, B9.out⟩
end Go.Proofs.Ytbojjhdcmogjdaa
