/- Contract of the law PrecedentsGovern: it returns true for every input. -/
import Derived.Test.YtbojjhdcmogjdaaLawC
import Derived.Test.YtbojjhdcmogjdaaLawB
import Derived.StillTailTactics
namespace Go.Proofs.Ytbojjhdcmogjdaa
open Go.RowKit

/-- from place i on -/
def sh {α : Type} (i : Nat) (f : Nat → α) (j : Nat) : α := f (i + j)
section
variable {S : Nat → Int} {sn n : Nat} {no hr wi : Nat → Int} {fn : Nat → Nat} {F : Nat → Nat → Int} {rn : Nat → Nat} {R : Nat → Nat → Int} {l : Nat → Int} {m i : Nat}
theorem csc_sh (no hr wi : Nat → Int) (FA : Nat → Option Addr) (fn fc : Nat → Nat) (RA : Nat → Option Addr) (rn rc : Nat → Nat) (i j : Nat) (hj : j < 5) : csc no hr wi FA fn fc RA rn rc (i * 5 + j) = csc (sh i no) (sh i hr) (sh i wi) (sh i FA) (sh i fn) (sh i fc) (sh i RA) (sh i rn) (sh i rc) j := by
  have e1 : (i * 5 + j) % 5 = j % 5 := by omega
  have e2 : (i * 5 + j) / 5 = i := by omega
  have e3 : j / 5 = 0 := by omega
  unfold csc sh
  rw [e1, e2, e3, Nat.add_zero]
theorem RdK.one {w : World} {B b off : Nat} {SA : Option Addr} {FA : Nat → Option Addr} {fc : Nat → Nat} {RA : Nat → Option Addr} {rc : Nat → Nat} (h : RdK w B SA sn S (some ⟨b, off, none⟩) n no hr wi FA fn fc F RA rn rc R) (hi : i < n) :
    RdK w B SA sn S (some ⟨b, off + i * 5, none⟩) 1 (sh i no) (sh i hr) (sh i wi) (sh i FA) (sh i fn) (sh i fc) (sh i F) (sh i RA) (sh i rn) (sh i rc) (sh i R) := by
  refine ⟨h.1, fun _ => ?_, fun j hj => ?_⟩
  · obtain ⟨b', off', e, hb, hc⟩ := h.2.1 (by omega)
    cases e
    refine ⟨b, off + i * 5, rfl, hb, fun j hj => ?_⟩
    rw [Nat.add_assoc, hc (i * 5 + j) (by omega), csc_sh _ _ _ _ _ _ _ _ _ i j (by omega)]
  · obtain rfl : j = 0 := by omega
    exact h.2.2 i hi
theorem sm_one {i : Nat} (h : SmK sn n fn rn) (hi : i < n) : SmK sn 1 (sh i fn) (sh i rn) := ⟨h.1, by omega, fun j hj => by
  obtain rfl : j = 0 := by omega
  exact h.2.2 i hi⟩
theorem chk_one (h : (chkE S sn n no hr wi fn F rn R) = 0) (hi : i < n) : chkE S sn 1 (sh i no) (sh i hr) (sh i wi) (sh i fn) (sh i F) (sh i rn) (sh i R) = 0 := by
  obtain ⟨h1, h2, h3, h4⟩ := chk_zero h
  refine chk_ok (by omega) h3 (casN_of 1 fun j hj => ?_)
  obtain rfl : j = 0 := by omega
  have h5 := h4 i hi
  unfold casB at h5 ⊢
  rw [Bool.and_eq_true, Bool.and_eq_true] at h5
  rw [show numB (sh i no) (sh i hr) (sh i wi) 0 = numB no hr wi i from rfl, h5.1.1]
  simp only [ordB, decide_true, Bool.true_or, Bool.true_and]
  exact h5.2
theorem fst_one (p : Nat → Bool) : fstB p 0 1 = if p 0 = true then some 0 else none := by simp [fstB]
theorem bnd_one (h : (chkE S sn n no hr wi fn F rn R) = 0) (hl : okS sn l m = true) (hi : i < n) : bndP S sn (sh i wi) (sh i fn) (sh i F) (sh i rn) (sh i R) l m (wi i) 0 = (allB (R i) l m (rn i) && decide ((fltL (misP S (wi i) (F i) (fn i)) l m).length = 0)) := by
  rw [bnd_eq (chk_one h hi) hl (wi i) (by omega)]
  show ((decide (wi i = wi i) && allB (R i) l m (rn i)) && _) = _
  rw [decide_eq_true rfl, Bool.true_and]
  rfl
end

set_option maxRecDepth 100000 in
set_option maxHeartbeats 4000000 in
theorem govern_7 {SA CA : Option Addr} {sn sc n cc : Nat} {S no hr wi : Nat → Int} {FA RA : Nat → Option Addr} {fn fc rn rc : Nat → Nat} {F R : Nat → Nat → Int} (B : Nat) (A : Option Addr) (m c : Nat) (l : Nat → Int) (a : Nat) (w : World) (hn : n ≤ cc ∧ cc ≤ 9223372036854775807) (ha : a ≤ 255) (hB : B ≤ w.heap.size) (hr0 : RdK w B SA sn S CA n no hr wi FA fn fc F RA rn rc R) (hf : Rd w B A m (fun j => .int .i64 (l j))) :
    Calls Try.prog 7 #[(.agg #[.slice SA sn sc, .slice CA n cc]), .slice A m c, .int .u8 a] w fun e w' => e = .returned (.bool true) ∧ Below w.heap.size w w' := by
  have HRT : Hid (∀ W, Below w.heap.size w W → Calls Try.prog 22 #[(.agg #[.slice SA sn sc, .slice CA n cc]), .slice A m c] W fun e w' => RtR (SmK sn n fn rn ∧ (chkE S sn n no hr wi fn F rn R) = 0 ∧ m ≤ 60 ∧ okS sn l m = true) e ∧ Below W.heap.size W w') := Lib.hid fun W h => right_22 B A m c l W (Nat.le_trans hn.1 hn.2) (Nat.le_trans hB h.size) (hr0.below (h.mono hB)) (hf.below (h.mono hB))
  have HCA : Hid (0 < n → ∃ b off, CA = some ⟨b, off, none⟩) := Lib.hid fun h => by
    obtain ⟨b, off, e, _⟩ := hr0.2.1 (by omega)
    exact ⟨b, off, e⟩
  obtain ⟨gb, hgb⟩ : ∃ gb : Nat → Bool, gb = fun i => allB (R i) l m (rn i) := ⟨_, rfl⟩
  obtain ⟨ln, hln⟩ : ∃ ln : Nat → Nat, ln = fun i => (fltL (misP S (wi i) (F i) (fn i)) l m).length := ⟨_, rfl⟩
  have HALL : Hid ((SmK sn n fn rn ∧ (chkE S sn n no hr wi fn F rn R) = 0 ∧ m ≤ 60 ∧ okS sn l m = true) → ∀ i, i < n → n ≤ 64 ∧
      (∀ b off c1 W, CA = some ⟨b, off, none⟩ → Below w.heap.size w W → Calls Try.prog 15 #[.agg #[.slice SA sn sc, .slice (some ⟨b, off + i * 5, none⟩) 1 c1], .slice A m c, .int .i64 (wi i)] W fun e w' => (∃ z : Int, e = .returned (.tuple #[.int .i64 z, .bool (gb i && decide (ln i = 0)), .int .i64 0])) ∧ Below W.heap.size W w') ∧
      (∀ W, Below w.heap.size w W → Calls Try.prog 19 #[(.agg #[.slice SA sn sc, .slice CA n cc]), .int .i64 (i : Nat), .slice A m c] W fun e w' => (∃ A' c', e = .returned (.tuple #[.slice A' (ln i) c', .bool (decide (ln i ≠ 0) && gb i), .int .i64 0])) ∧ Below W.heap.size W w') ∧
      (∀ W, Below w.heap.size w W → Calls Try.prog 24 #[.slice (RA i) (rn i) (rc i), .slice A m c] W fun e w' => e = .returned (.bool (gb i)) ∧ W = w') ∧
      (∀ b off W, CA = some ⟨b, off, none⟩ → Below w.heap.size w W → W.cell? ⟨b, off + i * 5 + 2, none⟩ = some (.int .i64 (wi i)) ∧ W.cell? ⟨b, off + i * 5 + 4, none⟩ = some (.slice (RA i) (rn i) (rc i)))) := Lib.hid fun ⟨hs, h0, hm, hl⟩ i hi => by
    have hask : ∀ {n' : Nat} {no' hr' wi' : Nat → Int} {fn' : Nat → Nat} {F' : Nat → Nat → Int} {rn' : Nat → Nat} {R' : Nat → Nat → Int} (x : Int), x = 0 ∨ x = 1 → chkE S sn n' no' hr' wi' fn' F' rn' R' = 0 → askE (chkE S sn n' no' hr' wi' fn' F' rn' R') sn l m x = 0 := fun x hx h0 => by
      rw [askE, if_neg (by rw [h0]; simp), if_neg (by rw [hl]; simp), if_neg (by rw [inB_iff.2 (by omega)]; simp)]
    obtain ⟨h32, h64, hS, hbk⟩ := book_at h0
    obtain ⟨hwi, _⟩ := hbk i hi
    refine ⟨h64, fun b off c1 W hCA h => ?_, fun W h => ?_, fun W h => ?_, fun b off W hCA h => ?_⟩
    · subst hCA
      have h1 := Binds_15 (sc := sc) (cc := c1) B A m c l (wi i) W (sm_one hs hi) (by omega) (Nat.le_trans hB h.size) ((hr0.below (h.mono hB)).one hi) (hf.below (h.mono hB))
      rw [hask (wi i) hwi (chk_one h0 hi), fst_one, bnd_one h0 hl hi] at h1
      refine h1.mono fun e w' h2 => ⟨?_, h2.2⟩
      rw [h2.1, hgb, hln]
      refine ⟨0, ?_⟩
      cases h3 : (allB (R i) l m (rn i) && decide ((fltL (misP S (wi i) (F i) (fn i)) l m).length = 0)) <;> simp [bdV]
    · have h1 := Dist_19 (sc := sc) (cc := cc) B A m c l (i : Nat) W hs (by omega) (Nat.le_trans hB h.size) (hr0.below (h.mono hB)) (hf.below (h.mono hB))
      have h3 : disE (askE (chkE S sn n no hr wi fn F rn R) sn l m 0) n (i : Nat) = 0 := by rw [hask 0 (.inl rfl) h0, disE, if_neg (by simp), if_pos (by omega)]
      have h4 := dis_same (i := (i : Nat)) h3
      refine h1.mono fun e w' h2 => ⟨?_, h2.2⟩
      obtain ⟨A', k, c', h5, h6, _⟩ := DisR.same (fun _ => h4) h2.1.1
      rw [h3] at h5 h6
      rw [if_pos rfl, Int.toNat_natCast] at h6
      subst h6
      refine ⟨A', c', ?_⟩
      rw [h5, hgb, hln]
      simp
    · rw [hgb]
      exact All_24 (RA i) A (rn i) (rc i) m c B (R i) l W (by have := (hs.2.2 i hi).2; omega) (by omega) ((hr0.below (h.mono hB)).2.2 i hi).2 (hf.below (h.mono hB))
    · subst hCA
      have h1 := (hr0.below (h.mono hB)).here hi
      exact ⟨h1.2.2.1, h1.2.2.2.2⟩
  clear hr0 hf hgb hln
  obtain ⟨hn1, hn2⟩ := hn
  go_enter Try.func7, Try.ntmps7
  go_upto_region 1 with fail
  obtain ⟨w0, hbx⟩ : ∃ zz, zz = w.alloc (.cells #[.slice SA sn sc, .slice CA n cc] 25) := ⟨_, rfl⟩
  have NK : Blk w0 (w.heap.size) 25 #[.slice SA sn sc, .slice CA n cc] := hbx ▸ ((Blk.new' rfl))
  have hb : Below w.heap.size w w0 := by rw [hbx]; (repeat (first | exact Below.refl _ _ | exact below_alloc _ _ | refine Below.alloc ?_ (by simp; omega) _ | refine Below.alloc ?_ (by simp) _))
  rw [← hbx]
  clear hbx
  have B1 := Lib.hid (show Below w.heap.size w w0 from hb)
  have hz1 := B1.out.size
  clear hb 
  have K1 := Lib.hid NK
  clear NK
  have hsK1 := K1.out.lt
  go_wp2_with fail
  refine (sane_9 _).mono ?_
  rintro e w1 ⟨rfl, hb⟩
  have B2 := Lib.hid (B1.out.trans (hb.mono B1.out.size))
  have K2 := Lib.hid (K1.out.below hb K1.out.lt)
  have hz2 := B2.out.size
  clear hb B1 K1 hz1
  have hsK2 := K2.out.lt
  clear hsK1
  have cK0 : w1.cell? ⟨w.heap.size, 0, none⟩ = some (.slice SA sn sc) := K2.out.cell 0
  have cK1 : w1.cell? ⟨w.heap.size, 1, none⟩ = some (.slice CA n cc) := K2.out.cell 1
  go_wp2_with fail
  refine (HRT.out _ B2.out).mono ?_
  rintro e w2 ⟨⟨rt, rfl, hrt⟩, hb⟩
  clear cK0 cK1
  have B3 := Lib.hid (B2.out.trans (hb.mono B2.out.size))
  have K3 := Lib.hid (K2.out.below hb K2.out.lt)
  have hz3 := B3.out.size
  clear hb B2 K2 hz2
  have hsK3 := K3.out.lt
  clear hsK2
  cases rt with
  | false =>
    go_wp2_with fail
    go_ret
    exact ⟨rfl, B3.out⟩
  | true =>
    have cK0 : w2.cell? ⟨w.heap.size, 0, none⟩ = some (.slice SA sn sc) := K3.out.cell 0
    have cK1 : w2.cell? ⟨w.heap.size, 1, none⟩ = some (.slice CA n cc) := K3.out.cell 1
    by_cases hn0 : n = 0
    · subst hn0
      go_wp2_with fail
      go_ret
      exact ⟨rfl, B3.out⟩
    obtain ⟨i, hie⟩ : ∃ i : Nat, (a : Int) % (n : Int) = i := ⟨((a : Int) % (n : Int)).toNat, by have := Int.emod_nonneg (a : Int) (show (n : Int) ≠ 0 by omega); omega⟩
    have hi : i < n := by have := Int.emod_lt_of_pos (a : Int) (show (0 : Int) < n by omega); omega
    obtain ⟨hn64, h15, h19, h24, hcell⟩ := HALL.out (hrt rfl) i hi
    obtain ⟨b, off, hCA⟩ := HCA.out (by omega)
    have H15 := Lib.hid h15
    have H19 := Lib.hid h19
    have H24 := Lib.hid h24
    have HCE := Lib.hid hcell
    clear HALL hrt h15 h19 h24 hcell HRT HCA
    have hi' : (i : Int) < n := by omega
    have hn0' : ((n : Int) == 0) = false := by simp; omega
    have hn64' : (n : Int) ≤ 64 := by omega
    have hcc' : (n : Int) ≤ cc := by omega
    subst hCA
    go_upto_region 6 with fail
    rw [hie]
    clear hie
    have hwi : IntKind.i64.wrap ((i : Int) + 1) = (i : Int) + 1 := IntWalk.i64_in _ ⟨by omega, by omega⟩
    clear cK0 cK1
    have cK0 : w2.cell? ⟨w.heap.size, 0, none⟩ = some (.slice SA sn sc) := K3.out.cell 0
    have cK1 : w2.cell? ⟨w.heap.size, 1, none⟩ = some (.slice (some ⟨b, off, none⟩) n cc) := K3.out.cell 1
    go_upto_region 7 with fail
    have hw02 : w.heap.size < w2.heap.size := hsK3
    clear cK0 cK1
    obtain ⟨w3, hbx⟩ : ∃ zz, zz = w2.alloc (.cells #[.slice SA sn sc, .slice (some ⟨b, off, none⟩) n cc] 25) := ⟨_, rfl⟩
    have NO : Blk w3 (w2.heap.size) 25 #[.slice SA sn sc, .slice (some ⟨b, off, none⟩) n cc] := hbx ▸ ((Blk.new' rfl))
    have hb : Below w2.heap.size w2 w3 := by rw [hbx]; (repeat (first | exact Below.refl _ _ | exact below_alloc _ _ | refine Below.alloc ?_ (by simp; omega) _ | refine Below.alloc ?_ (by simp) _))
    rw [← hbx]
    clear hbx
    have B4 := Lib.hid (B3.out.trans (hb.mono B3.out.size))
    have K4 := Lib.hid (K3.out.below hb K3.out.lt)
    have hz4 := B4.out.size
    clear hb B3 K3 hz3
    have hsK4 := K4.out.lt
    clear hsK3
    have O4 := Lib.hid NO
    clear NO
    have hsO4 := O4.out.lt
    have cK0 : w3.cell? ⟨w.heap.size, 0, none⟩ = some (.slice SA sn sc) := K4.out.cell 0
    have fK0 : w3.frozen? ⟨w.heap.size, 0, none⟩ = false := K4.out.frozen 0
    have cK1 : w3.cell? ⟨w.heap.size, 1, none⟩ = some (.slice (some ⟨b, off, none⟩) n cc) := K4.out.cell 1
    have fK1 : w3.frozen? ⟨w.heap.size, 1, none⟩ = false := K4.out.frozen 1
    have cO0 : w3.cell? ⟨w2.heap.size, 0, none⟩ = some (.slice SA sn sc) := O4.out.cell 0
    have fO0 : w3.frozen? ⟨w2.heap.size, 0, none⟩ = false := O4.out.frozen 0
    have cO1 : w3.cell? ⟨w2.heap.size, 1, none⟩ = some (.slice (some ⟨b, off, none⟩) n cc) := O4.out.cell 1
    have fO1 : w3.frozen? ⟨w2.heap.size, 1, none⟩ = false := O4.out.frozen 1
    go_upto_region 8 with fail
    clear cK0 fK0 cK1 fK1 cO0 fO0 cO1 fO1
    obtain ⟨u, hu⟩ : ∃ zz, zz = w3.setCell ⟨w2.heap.size, 1, none⟩ (.slice (some ⟨b, off + i * 5, none⟩) 1 (cc - i)) := ⟨_, rfl⟩
    have B5 : Hid (Below w.heap.size w u) := Lib.hid (hu ▸ B4.out.setCell (by simp; omega) _)
    have K5 : Hid (Blk u w.heap.size 25 #[.slice SA sn sc, .slice (some ⟨b, off, none⟩) n cc]) := Lib.hid (hu ▸ K4.out.far (by simp; omega) _)
    have O5 : Hid (Blk u w2.heap.size 25 #[.slice SA sn sc, .slice (some ⟨b, off + i * 5, none⟩) 1 (cc - i)]) := Lib.hid (hu ▸ O4.out.set_ 1 _)
    rw [← hu]
    clear hu K4 O4 B4 hz4
    have hz5 := B5.out.size
    clear hsK4 hsO4
    have hsK5 := K5.out.lt
    have hsO5 := O5.out.lt
    have cO0 : u.cell? ⟨w2.heap.size, 0, none⟩ = some (.slice SA sn sc) := O5.out.cell 0
    have cO1 : u.cell? ⟨w2.heap.size, 1, none⟩ = some (.slice (some ⟨b, off + i * 5, none⟩) 1 (cc - i)) := O5.out.cell 1
    obtain ⟨ce2, ce4⟩ := HCE.out b off u rfl B5.out
    clear ce4
    have HC : Hid (∀ W, Hid (Below u.heap.size u W) → Calls Try.prog 15 #[.agg #[.slice SA sn sc, .slice (some ⟨b, off + i * 5, none⟩) 1 (cc - i)], .slice A m c, .int .i64 (wi i)] W fun e w' => (∃ z : Int, e = .returned (.tuple #[.int .i64 z, .bool (gb i && decide (ln i = 0)), .int .i64 0])) ∧ Hid (Below u.heap.size u w') ∧ w'.cell? ⟨w2.heap.size, 0, none⟩ = some (.slice SA sn sc) ∧ w'.cell? ⟨w2.heap.size, 1, none⟩ = some (.slice (some ⟨b, off + i * 5, none⟩) 1 (cc - i)) ∧ w'.cell? ⟨b, off + i * 5 + 2, none⟩ = some (.int .i64 (wi i))) := Lib.hid fun W h => (H15.out b off (cc - i) W rfl (B5.out.trans (h.out.mono hz5))).mono fun e w' h2 => by
      have hb := h.out.trans (h2.2.mono h.out.size)
      have g := O5.out.below hb O5.out.lt
      exact ⟨h2.1, Lib.hid hb, g.cell 0, g.cell 1, (HCE.out b off w' rfl (B5.out.trans (hb.mono hz5))).1⟩
    go_region_held3 (fun w' => Hid (Below u.heap.size u w') ∧ w'.cell? ⟨w2.heap.size, 0, none⟩ = some (.slice SA sn sc) ∧ w'.cell? ⟨w2.heap.size, 1, none⟩ = some (.slice (some ⟨b, off + i * 5, none⟩) 1 (cc - i)) ∧ w'.cell? ⟨b, off + i * 5 + 2, none⟩ = some (.int .i64 (wi i)))
      (refine ⟨?_, ?_, ?_, ?_⟩ <;> first | assumption | go_keep | exact Lib.hid (Below.refl _ _).drew)
      (first | (go_at_call 15; refine (HC.out _ ?_).mono ?_; (first | assumption | (go_split_ands; assumption) | exact Lib.hid (Below.refl _ _).drew); rintro e v2 ⟨⟨z, rfl⟩, hk, k0, k1, k2⟩))
    have hb : Below u.heap.size u v2 := hk.out
    clear hk k0 k1 k2 HC ce2
    clear cO0 cO1
    have B6 := Lib.hid (B5.out.trans (hb.mono B5.out.size))
    have K6 := Lib.hid (K5.out.below hb K5.out.lt)
    have O6 := Lib.hid (O5.out.below hb O5.out.lt)
    have hz6 := B6.out.size
    clear hb B5 K5 O5 hz5
    have hsK6 := K6.out.lt
    have hsO6 := O6.out.lt
    clear hsK5 hsO5
    have cK0 : v2.cell? ⟨w.heap.size, 0, none⟩ = some (.slice SA sn sc) := K6.out.cell 0
    have cK1 : v2.cell? ⟨w.heap.size, 1, none⟩ = some (.slice (some ⟨b, off, none⟩) n cc) := K6.out.cell 1
    have cO0 : v2.cell? ⟨w2.heap.size, 0, none⟩ = some (.slice SA sn sc) := O6.out.cell 0
    have cO1 : v2.cell? ⟨w2.heap.size, 1, none⟩ = some (.slice (some ⟨b, off + i * 5, none⟩) 1 (cc - i)) := O6.out.cell 1
    go_wp2_with fail
    refine (H19.out _ B6.out).mono ?_
    rintro e v3 ⟨⟨A1, c1, rfl⟩, hb⟩
    clear cK0 cK1 cO0 cO1
    have B7 := Lib.hid (B6.out.trans (hb.mono B6.out.size))
    have K7 := Lib.hid (K6.out.below hb K6.out.lt)
    have O7 := Lib.hid (O6.out.below hb O6.out.lt)
    have hz7 := B7.out.size
    clear hb B6 K6 O6 hz6
    have hsK7 := K7.out.lt
    have hsO7 := O7.out.lt
    clear hsK6 hsO6
    obtain ⟨ce2, ce4⟩ := HCE.out b off v3 rfl B7.out
    have cO0 : v3.cell? ⟨w2.heap.size, 0, none⟩ = some (.slice SA sn sc) := O7.out.cell 0
    have cO1 : v3.cell? ⟨w2.heap.size, 1, none⟩ = some (.slice (some ⟨b, off + i * 5, none⟩) 1 (cc - i)) := O7.out.cell 1
    by_cases hz : ln i = 0
    · rw [hz]
      cases hg : gb i
      · go_wp2_with fail
        refine (H24.out _ B7.out).mono ?_
        rintro e v4 ⟨rfl, rfl⟩
        rw [hg]
        go_wp2_with fail
        go_ret
        exact ⟨rfl, B7.out⟩
      · go_wp2_with fail
        refine (H24.out _ B7.out).mono ?_
        rintro e v4 ⟨rfl, rfl⟩
        rw [hg]
        go_wp2_with fail
        go_ret
        exact ⟨rfl, B7.out⟩
    · have hz' : ((ln i : Nat) : Int) ≠ 0 := by omega
      have hz2 : (((ln i : Nat) : Int) == 0) = false := by simpa using hz'
      have e1 : decide (ln i = 0) = false := by simpa using hz
      have e2 : decide (ln i ≠ 0) = true := by simpa using hz
      rw [e1, e2]
      cases hg : gb i
      · go_wp2_with fail
        refine (H24.out _ B7.out).mono ?_
        rintro e v4 ⟨rfl, rfl⟩
        rw [hg]
        go_wp2_with fail
        go_ret
        exact ⟨rfl, B7.out⟩
      · go_wp2_with fail
        refine (H24.out _ B7.out).mono ?_
        rintro e v4 ⟨rfl, rfl⟩
        rw [hg]
        go_wp2_with fail
        go_ret
        exact ⟨rfl, B7.out⟩
theorem govern_row {SA CA : Option Addr} {sn sc n cc : Nat} {S no hr wi : Nat → Int} {FA RA : Nat → Option Addr} {fn fc rn rc : Nat → Nat} {F R : Nat → Nat → Int} (B : Nat) (A : Option Addr) (m c : Nat) (l : Nat → Int) (a : Int) (w : World) (hn : n ≤ cc ∧ cc ≤ 9223372036854775807) (ha : 0 ≤ a ∧ a ≤ 255) (hB : B ≤ w.heap.size) (hr0 : RdK w B SA sn S CA n no hr wi FA fn fc F RA rn rc R) (hf : Rd w B A m (fun j => .int .i64 (l j))) :
    Calls Try.prog 7 #[(.agg #[.slice SA sn sc, .slice CA n cc]), .slice A m c, .int .u8 a] w fun e w' => e = .returned (.bool true) ∧ Below w.heap.size w w' := by
  obtain ⟨v, rfl⟩ : ∃ v : Nat, a = v := ⟨a.toNat, by omega⟩
  exact govern_7 B A m c l v w hn (by omega) hB hr0 hf
end Go.Proofs.Ytbojjhdcmogjdaa
