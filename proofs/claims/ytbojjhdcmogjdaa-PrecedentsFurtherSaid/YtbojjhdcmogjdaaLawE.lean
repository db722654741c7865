/- Contract of the law PrecedentsCourt: it returns true for every input. -/
import Derived.Test.YtbojjhdcmogjdaaLawC
import Derived.Test.YtbojjhdcmogjdaaMore
import Derived.StillTailTactics
namespace Go.Proofs.Ytbojjhdcmogjdaa
open Go.RowKit

theorem own_empty5 {W : World} {g base : Nat} (hg : Blk W g 44 #[]) (hb : base ≤ g) : W.ownsRow base 44 5 (.slice (some ⟨g, 0, none⟩) 0 0) 0 [] :=
  ⟨by simp, .inr ⟨g, 0, #[], rfl, hb, hg, Nat.le_refl _, by unfold maxLen; omega, by simp, by simp⟩⟩
theorem below_grown {v W W' : World} {row : Option Nat} (hb : Below v.heap.size v W) (hg : W.grownBy W' row) (hr : ∀ q, row = some q → v.heap.size ≤ q) : Below v.heap.size v W' :=
  hb.grown hg hb.size hr
theorem own_not {w : World} {base : Nat} {e : TypeId} {size n : Nat} {v : Value} {xs : List Value} (h : w.ownsRow base e size v n xs) {g : Nat} (hg : g < base) : v.ownBlock ≠ some g := fun e2 => by have := (h.lt _ e2).1; omega


set_option maxRecDepth 100000 in
set_option maxHeartbeats 4000000 in
theorem court_6 {SA CA : Option Addr} {sn sc n cc : Nat} {S no hr wi : Nat → Int} {FA RA : Nat → Option Addr} {fn fc rn rc : Nat → Nat} {F R : Nat → Nat → Int} (B : Nat) (A : Option Addr) (m c : Nat) (l : Nat → Int) (less sd : Nat) (w : World) (hn : n ≤ cc ∧ cc ≤ 9223372036854775807) (hv : less < 4294967296) (hsd : sd ≤ 255) (hB : B ≤ w.heap.size) (hr0 : RdK w B SA sn S CA n no hr wi FA fn fc F RA rn rc R) (hf : Rd w B A m (fun j => .int .i64 (l j))) :
    Calls Try.prog 6 #[(.agg #[.slice SA sn sc, .slice CA n cc]), .slice A m c, .int .u32 less, .int .u8 sd] w fun e w' => e = .returned (.bool true) ∧ Below w.heap.size w w' := by
  have HRT : Hid (∀ W, Below w.heap.size w W → Calls Try.prog 22 #[(.agg #[.slice SA sn sc, .slice CA n cc]), .slice A m c] W fun e w' => RtR (SmK sn n fn rn ∧ (chkE S sn n no hr wi fn F rn R) = 0 ∧ m ≤ 60 ∧ okS sn l m = true) e ∧ Below W.heap.size W w') := Lib.hid fun W h => right_22 B A m c l W (Nat.le_trans hn.1 hn.2) (Nat.le_trans hB h.size) (hr0.below (h.mono hB)) (hf.below (h.mono hB))
  obtain ⟨FL, hFL⟩ : ∃ FL : Int → List Int, FL = fun x => favL S l m x := ⟨_, rfl⟩
  obtain ⟨bo, hbo⟩ : ∃ bo : Nat → Bool, bo = fun (t : Nat) => (fstB (bndP S sn wi fn F rn R l m (t : Int)) 0 n).isSome := ⟨_, rfl⟩
  obtain ⟨mo, hmo⟩ : ∃ mo : Int → List Int → Bool, mo = fun x L => (fstB (mayP wi fn F rn R l m (ixL L) L.length x) 0 n).isNone := ⟨_, rfl⟩
  obtain ⟨bi, hbi⟩ : ∃ bi : Nat → Int, bi = fun (t : Nat) => (((fstB (bndP S sn wi fn F rn R l m (t : Int)) 0 n).getD 0 : Nat) : Int) := ⟨_, rfl⟩
  obtain ⟨mi, hmi⟩ : ∃ mi : Int → List Int → Int, mi = fun x L => (((fstB (mayP wi fn F rn R l m (ixL L) L.length x) 0 n).getD 0 : Nat) : Int) := ⟨_, rfl⟩
  obtain ⟨cl, hcl⟩ : ∃ cl : Bool, cl = (prB (clsP wi fn F rn R) n 0 n).isSome := ⟨_, rfl⟩
  obtain ⟨ca, cb, hcab⟩ : ∃ ca cb : Int, (chkE S sn n no hr wi fn F rn R) = 0 → clV (chkE S sn n no hr wi fn F rn R) (prB (clsP wi fn F rn R) n 0 n) = .tuple #[.int .i64 ca, .int .i64 cb, .bool (prB (clsP wi fn F rn R) n 0 n).isSome, .int .i64 0] := ⟨_, _, fun h => by rw [h]; simp [clV]; exact ⟨rfl, rfl⟩⟩
  have HALL : Hid ((SmK sn n fn rn ∧ (chkE S sn n no hr wi fn F rn R) = 0 ∧ m ≤ 60 ∧ okS sn l m = true) →
      (∀ t : Nat, t < 2 → ∀ W, Below w.heap.size w W → Calls Try.prog 15 #[(.agg #[.slice SA sn sc, .slice CA n cc]), .slice A m c, .int .i64 t] W fun e w' => e = .returned (.tuple #[.int .i64 (bi t), .bool (bo t), .int .i64 0]) ∧ Below W.heap.size W w') ∧
      (∀ x W, Below w.heap.size w W → Calls Try.prog 23 #[(.agg #[.slice SA sn sc, .slice CA n cc]), .slice A m c, .int .i64 x] W fun e w' => (∃ A' k' c', e = .returned (.slice A' k' c') ∧ k' = (FL x).length ∧ Rd w' w'.heap.size A' k' (fun j => .int .i64 (ixL (FL x) j))) ∧ Below W.heap.size W w') ∧
      (∀ x, x = 0 ∨ x = 1 → ∀ L A' c' W, Below w.heap.size w W → reaB S sn l m (ixL L) L.length x = true → L.length ≤ 60 → Rd W W.heap.size A' L.length (fun j => .int .i64 (ixL L j)) → Calls Try.prog 17 #[(.agg #[.slice SA sn sc, .slice CA n cc]), .slice A m c, .slice A' L.length c', .int .i64 x] W fun e w' => e = .returned (.tuple #[.int .i64 (mi x L), .bool (mo x L), .int .i64 0]) ∧ Below W.heap.size W w') ∧
      (∀ (t : Nat) x, t < 2 → x = 1 - (t : Int) → bo t = !(mo x (FL x))) ∧
      (∀ x, (reaB S sn l m (ixL (FL x)) (FL x).length x = true ∧ (FL x).length ≤ 60) ∧ reaB S sn l m (ixL (picks less (FL x))) (picks less (FL x)).length x = true ∧ (FL x).length ≤ 32) ∧
      (∀ W, Below w.heap.size w W → Calls Try.prog 11 #[(.agg #[.slice SA sn sc, .slice CA n cc])] W fun e w' => e = .returned (.tuple #[.int .i64 ca, .int .i64 cb, .bool cl, .int .i64 0]) ∧ Below W.heap.size W w') ∧
      (cl = false → (bo 0 && bo 1) = false) ∧
      (cl = false → n ≤ 60 → ∀ x L N1 H1 W base A2 c2 A3 c3, x = 0 ∨ x = 1 → reaB S sn l m (ixL L) L.length x = true → L.length ≤ 60 → (0 ≤ N1 ∧ N1 ≤ 1048576) → ((0 ≤ H1 ∧ H1 ≤ 4096) ∧ (n = 0 ∨ no (n - 1) < N1 ∧ hr (n - 1) ≤ H1)) → Below w.heap.size w W → Rd W W.heap.size A2 L.length (fun j => .int .i64 (ixL L j)) →
        W.ownsRow base 44 5 (.slice A3 (n + 1) c3) (n + 1) (rowC no hr wi FA fn fc RA rn rc n ++ newC N1 H1 x A m c A2 L.length c2) →
        Calls Try.prog 11 #[.agg #[.slice SA sn sc, .slice A3 (n + 1) c3]] W fun e w' => (∃ a b : Int, e = .returned (.tuple #[.int .i64 a, .int .i64 b, .bool (!(mo x L)), .int .i64 0])) ∧ Below W.heap.size W w') ∧
      (0 < n → (0 ≤ no (n - 1) ∧ no (n - 1) ≤ 1048576) ∧ (0 ≤ hr (n - 1) ∧ hr (n - 1) ≤ 4096) ∧ ∀ W, Below w.heap.size w W → ∃ b off, CA = some ⟨b, off, none⟩ ∧ b < w.heap.size ∧ W.cell? ⟨b, off + (n - 1) * 5, none⟩ = some (.int .i64 (no (n - 1))) ∧ W.cell? ⟨b, off + (n - 1) * 5 + 1, none⟩ = some (.int .i64 (hr (n - 1))))) := Lib.hid fun ⟨hs, h0, hm, hl⟩ => by
    have hask : ∀ x : Int, x = 0 ∨ x = 1 → askE (chkE S sn n no hr wi fn F rn R) sn l m x = 0 := fun x hx => by
      rw [askE, if_neg (by rw [h0]; simp), if_neg (by rw [hl]; simp), if_neg (by rw [inB_iff.2 (by omega)]; simp)]
    have h32 := (book_at h0).1
    refine ⟨fun t ht W h => ?_, fun x W h => ?_, fun x hx L A' c' W h hre hL hrd => ?_, fun t x ht hx => ?_, fun x => ?_, fun W h => ?_, fun h => ?_, fun hcf h60 x L N1 H1 W base A2 c2 A3 c3 hx hre hL hN hH h hrd ho => ?_, fun hpos => ?_⟩
    · have h1 := Binds_15 (sc := sc) (cc := cc) B A m c l t W hs (by omega) (Nat.le_trans hB h.size) (hr0.below (h.mono hB)) (hf.below (h.mono hB))
      rw [hask t (by omega)] at h1
      refine h1.mono fun e w' h2 => ⟨?_, h2.2⟩
      rw [h2.1, hbo, hbi]
      simp [bdV]
    · have h1 := Favour_23 SA CA A sn sc n cc m c B S l x W (by omega) (Nat.le_trans hB h.size) (hr0.below (h.mono hB)).1 (hf.below (h.mono hB)) (fun k hk => (okS_at m hl k hk).1)
      rw [hFL]
      exact h1
    · have hz := h.size
      have h1 := May_17 (sc := sc) (cc := cc) W.heap.size A A' m c L.length c' l (ixL L) x W hs (by omega) (by omega) (Nat.le_refl _) ((hr0.below (h.mono hB)).mono (Nat.le_trans hB hz)) ((hf.below (h.mono hB)).mono (Nat.le_trans hB hz)) hrd
      rw [hask x hx, mayE, if_neg (by simp), if_pos hre] at h1
      refine h1.mono fun e w' h2 => ⟨?_, h2.2⟩
      rw [h2.1, hmo, hmi]
      simp [myV]
    · rw [hbo, hmo, hFL, hx]
      simp only
      rw [fortiori_eq h0 hl (by omega), some_not_none, Bool.not_not]
    · rw [hFL]
      simp only
      have hq := favL_len (S := S) (l := l) (m := m) (x := x)
      have h3 := okS_len (by omega) (ok_of_rea (rea_all (S := S) (x := x) hl))
      exact ⟨⟨rea_all hl, by omega⟩, rea_picks hl less, by omega⟩
    · have h1 := Clash_11 (sc := sc) (cc := cc) B W hs (Nat.le_trans hB h.size) (hr0.below (h.mono hB))
      rw [hcab h0, ← hcl] at h1
      exact h1
    · rw [hcl] at h
      rw [hbo]
      exact not_both h0 hl h
    · rw [hcl] at hcf
      have hz := h.size
      have h1 := chk_more (N1 := N1) (H1 := H1) h0 (by omega) hN hH.1 hx hH.2 hl hre
      have h2 := (hr0.below (h.mono hB)).more (A := A3) (Nat.le_trans hB hz) ((hf.below (h.mono hB)).mono (Nat.le_trans hB hz)) hrd ho
      have h3 := Clash_11 (sc := sc) (cc := c3) W.heap.size W (sm_more hs (by omega) hm hL) (Nat.le_refl _) h2
      refine h3.mono fun e w' h4 => ⟨?_, h4.2⟩
      have h5 := court_now h0 hl (ok_of_rea hre) hcf h1
      rw [h4.1, h1]
      simp only [clV, h5, hmo, some_not_none, Bool.not_not]
      exact ⟨_, _, by simp; exact ⟨rfl, rfl⟩⟩
    · obtain ⟨_, _, _, h4⟩ := chk_zero h0
      obtain ⟨⟨h5, h6, _⟩, _⟩ := casB_facts (h4 (n - 1) (by omega))
      refine ⟨h5, h6, fun W h => ?_⟩
      obtain ⟨b, off, e, hb, c0, c1, _⟩ := (hr0.below (h.mono hB)).at_ (show n - 1 < n by omega)
      exact ⟨b, off, e, by omega, c0, c1⟩
  have HCX : Hid (∀ W, Below w.heap.size w W → Rd W B CA (n * 5) (csc no hr wi FA fn fc RA rn rc)) := Lib.hid fun W h => (hr0.below (h.mono hB)).2.1
  have HCN : Hid (CA = none → n = 0) := Lib.hid fun h => by have := rd_none (h ▸ hr0.2.1); omega
  clear hr0 hf hFL hbo hmo hbi hmi hcl hcab
  obtain ⟨hn1, hn2⟩ := hn
  go_enter Try.func6, Try.ntmps6
  go_upto_region 1 with fail
  obtain ⟨w0, hbx⟩ : ∃ zz, zz = w.alloc (.cells #[.slice SA sn sc, .slice CA n cc] 25) := ⟨_, rfl⟩
  have NK : Blk w0 (w.heap.size) 25 #[.slice SA sn sc, .slice CA n cc] := hbx ▸ ((Blk.new' rfl))
  have hb : Below w.heap.size w w0 := by rw [hbx]; (repeat (first | exact Below.refl _ _ | exact below_alloc _ _ | refine Below.alloc ?_ (by simp; omega) _ | refine Below.alloc ?_ (by simp) _))
  rw [← hbx]
  clear hbx
  have B1 := Lib.hid (show Below w.heap.size w w0 from hb)
  have hz1 := B1.out.size
  clear hb 
  have K1 := Lib.hid NK
  clear NK
  have hsK1 := K1.out.lt
  go_wp2_with fail
  refine (sane_9 _).mono ?_
  rintro e w1 ⟨rfl, hb⟩
  have B2 := Lib.hid (B1.out.trans (hb.mono B1.out.size))
  have K2 := Lib.hid (K1.out.below hb K1.out.lt)
  have hz2 := B2.out.size
  clear hb B1 K1 hz1
  have hsK2 := K2.out.lt
  clear hsK1
  have cK0 : w1.cell? ⟨w.heap.size, 0, none⟩ = some (.slice SA sn sc) := K2.out.cell 0
  have cK1 : w1.cell? ⟨w.heap.size, 1, none⟩ = some (.slice CA n cc) := K2.out.cell 1
  go_wp2_with fail
  refine (HRT.out _ B2.out).mono ?_
  rintro e w2 ⟨⟨rt, rfl, hrt⟩, hb⟩
  clear cK0 cK1
  have B3 := Lib.hid (B2.out.trans (hb.mono B2.out.size))
  have K3 := Lib.hid (K2.out.below hb K2.out.lt)
  have hz3 := B3.out.size
  clear hb B2 K2 hz2
  have hsK3 := K3.out.lt
  clear hsK2
  cases rt with
  | false =>
    go_wp2_with fail
    go_ret
    exact ⟨rfl, B3.out⟩
  | true =>
    obtain ⟨hB1, hFV, hMY, hEQ, hln, h11, hnb, hct, hlast⟩ := HALL.out (hrt rfl)
    have HB1 := Lib.hid hB1
    have HFV := Lib.hid hFV
    have HMY := Lib.hid hMY
    have HEQ := Lib.hid hEQ
    have HLN := Lib.hid hln
    have H11 := Lib.hid h11
    have HNB := Lib.hid hnb
    have HCT := Lib.hid hct
    have HLAST := Lib.hid hlast
    clear HALL hrt hB1 hFV hMY hEQ hln h11 hnb hct hlast HRT
    obtain ⟨i0, hi, hi0, hi1, hi2⟩ := info_parts info3
    obtain ⟨i44, hj, hj0, hj1, hj2⟩ := info_parts info44
    have cK0 : w2.cell? ⟨w.heap.size, 0, none⟩ = some (.slice SA sn sc) := K3.out.cell 0
    have cK1 : w2.cell? ⟨w.heap.size, 1, none⟩ = some (.slice CA n cc) := K3.out.cell 1
    by_cases hn60 : 60 < n
    · have hn60' : (60 : Int) < n := by omega
      go_wp2_with fail
      go_ret
      exact ⟨rfl, B3.out⟩
    have hn60' : (n : Int) ≤ 60 := by omega
    go_wp2_with fail
    refine (H11.out _ B3.out).mono ?_
    rintro e w3 ⟨rfl, hb⟩
    clear cK0 cK1
    have B4 := Lib.hid (B3.out.trans (hb.mono B3.out.size))
    have K4 := Lib.hid (K3.out.below hb K3.out.lt)
    have hz4 := B4.out.size
    clear hb B3 K3 hz3
    have hsK4 := K4.out.lt
    clear hsK3
    cases cl with
    | true =>
      go_wp2_with fail
      go_ret
      exact ⟨rfl, B4.out⟩
    | false =>
      have hnb2 := HNB.out rfl
      have cK0 : w3.cell? ⟨w.heap.size, 0, none⟩ = some (.slice SA sn sc) := K4.out.cell 0
      have cK1 : w3.cell? ⟨w.heap.size, 1, none⟩ = some (.slice CA n cc) := K4.out.cell 1
      go_wp2_with fail
      refine (HB1.out 0 (by decide) _ B4.out).mono ?_
      rintro e w4 ⟨rfl, hb⟩
      clear cK0 cK1
      have B5 := Lib.hid (B4.out.trans (hb.mono B4.out.size))
      have K5 := Lib.hid (K4.out.below hb K4.out.lt)
      have hz5 := B5.out.size
      clear hb B4 K4 hz4
      have hsK5 := K5.out.lt
      clear hsK4
      have cK0 : w4.cell? ⟨w.heap.size, 0, none⟩ = some (.slice SA sn sc) := K5.out.cell 0
      have cK1 : w4.cell? ⟨w.heap.size, 1, none⟩ = some (.slice CA n cc) := K5.out.cell 1
      go_wp2_with fail
      refine (HB1.out 1 (by decide) _ B5.out).mono ?_
      rintro e w5 ⟨rfl, hb⟩
      clear cK0 cK1
      have B6 := Lib.hid (B5.out.trans (hb.mono B5.out.size))
      have K6 := Lib.hid (K5.out.below hb K5.out.lt)
      have hz6 := B6.out.size
      clear hb B5 K5 hz5
      have hsK6 := K6.out.lt
      clear hsK5
      have e0 := HEQ.out 0 1 (by decide) (by decide)
      have e1 := HEQ.out 1 0 (by decide) (by decide)
      rw [e0, e1] at hnb2 ⊢
      have HE0 := Lib.hid e0
      have HE1 := Lib.hid e1
      clear e0 e1
      generalize hm0 : mo 0 (FL 0) = m0 at hnb2 ⊢
      generalize hm1 : mo 1 (FL 1) = m1 at hnb2 ⊢
      have HM0 := Lib.hid hm0
      have HM1 := Lib.hid hm1
      clear hm0 hm1
      have hw : (!m0 && !m1) = false := by rw [Bool.and_comm]; exact hnb2
      have hnb3 : (!m1 && !m0) = false := hnb2
      go_upto_region 10 with fail
      go_cut [91] (fun s91 wc => s91 = .bool false ∧ wc = w5)
      case first =>
        cases m0
        · cases m1
          · cases hw
          · go_wp2_with fail
            go_meet
            case rel => exact ⟨rfl, rfl⟩
        · cases m1
          · go_wp2_with fail
            go_meet
            case rel => exact ⟨rfl, rfl⟩
          · go_wp2_with fail
            go_meet
            case rel => exact ⟨rfl, rfl⟩
      case rest =>
        obtain ⟨rfl, rfl⟩ := hcut
        obtain ⟨l0r, _, _⟩ := HLN.out 0
        obtain ⟨l1r, _, _⟩ := HLN.out 1
        have HL0 := Lib.hid l0r
        have HL1 := Lib.hid l1r
        clear l0r l1r
        obtain ⟨y0, hyy⟩ : ∃ y, y = wc := ⟨_, rfl⟩
        subst hyy
        go_upto_region 12 with fail
        have HC23 : Hid (∀ W, Hid (Below y0.heap.size y0 W) → Calls Try.prog 23 #[.agg #[.slice SA sn sc, .slice CA n cc], .slice A m c, .int .i64 0] W fun e w' => (∃ A' k' c', e = .returned (.slice A' k' c') ∧ k' = (FL 0).length ∧ Hid (Rd w' w'.heap.size A' (FL 0).length (fun j => .int .i64 (ixL (FL 0) j)))) ∧ Hid (Below y0.heap.size y0 w') ∧ w'.cell? ⟨w.heap.size, 0, none⟩ = some (.slice SA sn sc) ∧ w'.cell? ⟨w.heap.size, 1, none⟩ = some (.slice CA n cc)) := Lib.hid fun W h => (HFV.out 0 W (B6.out.trans (h.out.mono B6.out.size))).mono fun e w' h2 => by
          obtain ⟨⟨A', k', c', h3, h4, h5⟩, h6⟩ := h2
          have hb := h.out.trans (h6.mono h.out.size)
          have g := K6.out.below hb K6.out.lt
          exact ⟨⟨A', k', c', h3, h4, Lib.hid (h4 ▸ h5)⟩, Lib.hid hb, g.cell 0, g.cell 1⟩
        have HC17 : Hid (∀ W A' c', Hid (Below y0.heap.size y0 W) → Hid (Rd W W.heap.size A' (FL 0).length (fun j => .int .i64 (ixL (FL 0) j))) → Calls Try.prog 17 #[.agg #[.slice SA sn sc, .slice CA n cc], .slice A m c, .slice A' (FL 0).length c', .int .i64 0] W fun e w' => e = .returned (.tuple #[.int .i64 (mi 0 (FL 0)), .bool m0, .int .i64 0]) ∧ Hid (Below y0.heap.size y0 w') ∧ w'.cell? ⟨w.heap.size, 0, none⟩ = some (.slice SA sn sc) ∧ w'.cell? ⟨w.heap.size, 1, none⟩ = some (.slice CA n cc)) := Lib.hid fun W A' c' h hrd => (HMY.out 0 (by decide) (FL 0) A' c' W (B6.out.trans (h.out.mono B6.out.size)) HL0.out.1 HL0.out.2 hrd.out).mono fun e w' h2 => by
          have hb := h.out.trans (h2.2.mono h.out.size)
          have g := K6.out.below hb K6.out.lt
          exact ⟨by rw [h2.1, HM0.out], Lib.hid hb, g.cell 0, g.cell 1⟩
        have cK0 : y0.cell? ⟨w.heap.size, 0, none⟩ = some (.slice SA sn sc) := K6.out.cell 0
        have cK1 : y0.cell? ⟨w.heap.size, 1, none⟩ = some (.slice CA n cc) := K6.out.cell 1
        go_cut [19, 20, 21] (fun a b c x1 => a = .int .i64 (mi 0 (FL 0)) ∧ b = .bool m0 ∧ c = .int .i64 0 ∧ Below y0.heap.size y0 x1)
        case first =>
          go_region_held3 (fun w' => Hid (Below y0.heap.size y0 w') ∧ w'.cell? ⟨w.heap.size, 0, none⟩ = some (.slice SA sn sc) ∧ w'.cell? ⟨w.heap.size, 1, none⟩ = some (.slice CA n cc))
            (refine ⟨?_, ?_, ?_⟩ <;> first | assumption | go_keep | exact Lib.hid (Below.refl _ _).drew)
            (first | (go_at_call 23; refine (HC23.out _ ?_).mono ?_; (first | assumption | (go_split_ands; assumption) | exact Lib.hid (Below.refl _ _).drew); rintro e v1 ⟨⟨A1, k1, c1, rfl, rfl, hrd⟩, hk, q0, q1⟩) | (go_at_call 17; refine (HC17.out _ _ _ ?_ ?_).mono ?_; (first | assumption | (go_split_ands; assumption) | exact Lib.hid (Below.refl _ _).drew); (first | assumption | (go_split_ands; assumption)); rintro e v2 ⟨rfl, hk, q0, q1⟩))
          go_wp2_with fail
          go_meet
          case rel => exact ⟨rfl, rfl, rfl, hk.out⟩
        case rest =>
          obtain ⟨rfl, rfl, rfl, hb⟩ := hcut
          obtain ⟨x1, hyy⟩ : ∃ y, y = wc := ⟨_, rfl⟩
          subst hyy
          clear HC17 HC23
          clear cK0 cK1
          have B7 := Lib.hid (B6.out.trans (hb.mono B6.out.size))
          have K7 := Lib.hid (K6.out.below hb K6.out.lt)
          have hz7 := B7.out.size
          clear hb B6 K6 hz6
          have hsK7 := K7.out.lt
          clear hsK6
          go_upto_region 13 with fail
          have HC23 : Hid (∀ W, Hid (Below x1.heap.size x1 W) → Calls Try.prog 23 #[.agg #[.slice SA sn sc, .slice CA n cc], .slice A m c, .int .i64 1] W fun e w' => (∃ A' k' c', e = .returned (.slice A' k' c') ∧ k' = (FL 1).length ∧ Hid (Rd w' w'.heap.size A' (FL 1).length (fun j => .int .i64 (ixL (FL 1) j)))) ∧ Hid (Below x1.heap.size x1 w') ∧ w'.cell? ⟨w.heap.size, 0, none⟩ = some (.slice SA sn sc) ∧ w'.cell? ⟨w.heap.size, 1, none⟩ = some (.slice CA n cc)) := Lib.hid fun W h => (HFV.out 1 W (B7.out.trans (h.out.mono B7.out.size))).mono fun e w' h2 => by
            obtain ⟨⟨A', k', c', h3, h4, h5⟩, h6⟩ := h2
            have hb := h.out.trans (h6.mono h.out.size)
            have g := K7.out.below hb K7.out.lt
            exact ⟨⟨A', k', c', h3, h4, Lib.hid (h4 ▸ h5)⟩, Lib.hid hb, g.cell 0, g.cell 1⟩
          have HC17 : Hid (∀ W A' c', Hid (Below x1.heap.size x1 W) → Hid (Rd W W.heap.size A' (FL 1).length (fun j => .int .i64 (ixL (FL 1) j))) → Calls Try.prog 17 #[.agg #[.slice SA sn sc, .slice CA n cc], .slice A m c, .slice A' (FL 1).length c', .int .i64 1] W fun e w' => e = .returned (.tuple #[.int .i64 (mi 1 (FL 1)), .bool m1, .int .i64 0]) ∧ Hid (Below x1.heap.size x1 w') ∧ w'.cell? ⟨w.heap.size, 0, none⟩ = some (.slice SA sn sc) ∧ w'.cell? ⟨w.heap.size, 1, none⟩ = some (.slice CA n cc)) := Lib.hid fun W A' c' h hrd => (HMY.out 1 (by decide) (FL 1) A' c' W (B7.out.trans (h.out.mono B7.out.size)) HL1.out.1 HL1.out.2 hrd.out).mono fun e w' h2 => by
            have hb := h.out.trans (h2.2.mono h.out.size)
            have g := K7.out.below hb K7.out.lt
            exact ⟨by rw [h2.1, HM1.out], Lib.hid hb, g.cell 0, g.cell 1⟩
          have cK0 : x1.cell? ⟨w.heap.size, 0, none⟩ = some (.slice SA sn sc) := K7.out.cell 0
          have cK1 : x1.cell? ⟨w.heap.size, 1, none⟩ = some (.slice CA n cc) := K7.out.cell 1
          go_cut [22, 23, 24] (fun a b c x2 => a = .int .i64 (mi 1 (FL 1)) ∧ b = .bool m1 ∧ c = .int .i64 0 ∧ Below x1.heap.size x1 x2)
          case first =>
            go_region_held3 (fun w' => Hid (Below x1.heap.size x1 w') ∧ w'.cell? ⟨w.heap.size, 0, none⟩ = some (.slice SA sn sc) ∧ w'.cell? ⟨w.heap.size, 1, none⟩ = some (.slice CA n cc))
              (refine ⟨?_, ?_, ?_⟩ <;> first | assumption | go_keep | exact Lib.hid (Below.refl _ _).drew)
              (first | (go_at_call 23; refine (HC23.out _ ?_).mono ?_; (first | assumption | (go_split_ands; assumption) | exact Lib.hid (Below.refl _ _).drew); rintro e v1 ⟨⟨A1, k1, c1, rfl, rfl, hrd⟩, hk, q0, q1⟩) | (go_at_call 17; refine (HC17.out _ _ _ ?_ ?_).mono ?_; (first | assumption | (go_split_ands; assumption) | exact Lib.hid (Below.refl _ _).drew); (first | assumption | (go_split_ands; assumption)); rintro e v2 ⟨rfl, hk, q0, q1⟩))
            go_wp2_with fail
            go_meet
            case rel => exact ⟨rfl, rfl, rfl, hk.out⟩
          case rest =>
            obtain ⟨rfl, rfl, rfl, hb⟩ := hcut
            obtain ⟨x2, hyy⟩ : ∃ y, y = wc := ⟨_, rfl⟩
            subst hyy
            clear HC17 HC23
            clear cK0 cK1
            have B8 := Lib.hid (B7.out.trans (hb.mono B7.out.size))
            have K8 := Lib.hid (K7.out.below hb K7.out.lt)
            have hz8 := B8.out.size
            clear hb B7 K7 hz7
            have hsK8 := K8.out.lt
            clear hsK7
            go_upto_region 14 with fail
            go_cut [125] (fun s125 wc => s125 = .bool false ∧ wc = x2)
            case first =>
              cases m0
              · cases m1
                · cases hw
                · go_wp2_with fail
                  go_meet
                  case rel => exact ⟨rfl, rfl⟩
              · cases m1
                · go_wp2_with fail
                  go_meet
                  case rel => exact ⟨rfl, rfl⟩
                · go_wp2_with fail
                  go_meet
                  case rel => exact ⟨rfl, rfl⟩
            case rest =>
              obtain ⟨rfl, rfl⟩ := hcut
              clear HL0 HL1 hw hnb2 hnb3 HM0 HM1 HE0 HE1 HB1 HEQ HNB
              obtain ⟨xn, hxe⟩ : ∃ x : Nat, (sd : Int) % 2 = x := ⟨((sd : Int) % 2).toNat, by omega⟩
              have hx01 : (xn : Int) = 0 ∨ (xn : Int) = 1 := by omega
              obtain ⟨y3, hyy⟩ : ∃ y, y = wc := ⟨_, rfl⟩
              subst hyy
              go_upto_region 17 with fail
              rw [hxe]
              clear hxe
              generalize (xn : Int) = x at hx01 ⊢
              have HFVx := Lib.hid (HFV.out x)
              have HMYx := Lib.hid (HMY.out x hx01)
              have HLNx := Lib.hid (HLN.out x)
              have HCTx := Lib.hid (HCT.out (by first | rfl | trivial) (by omega) x)
              clear HFV HMY HLN HCT
              generalize FL x = L at HFVx HLNx
              have cK0 : y3.cell? ⟨w.heap.size, 0, none⟩ = some (.slice SA sn sc) := K8.out.cell 0
              have cK1 : y3.cell? ⟨w.heap.size, 1, none⟩ = some (.slice CA n cc) := K8.out.cell 1
              go_wp2_with fail
              refine (HFVx.out _ B8.out).mono ?_
              rintro e v2 ⟨⟨A1, k1, c1, rfl, hk1, hrd⟩, hb⟩
              clear cK0 cK1
              have B9 := Lib.hid (B8.out.trans (hb.mono B8.out.size))
              have K9 := Lib.hid (K8.out.below hb K8.out.lt)
              have hz9 := B9.out.size
              clear hb B8 K8 hz8
              have hsK9 := K9.out.lt
              clear hsK8
              obtain rfl := hk1
              have X9 := Lib.hid hrd
              clear hrd
              obtain ⟨_, hpk, hl32⟩ := HLNx.out
              clear HFVx
              have hsz0 := B9.out.size
              go_wp2_with fail
              go_loopw [26, 134] (fun v i wr => ∃ k : Nat, k ≤ L.length ∧ i = .int .i64 k ∧ wr.ownsRow v2.heap.size 3 1 v (pickL less (ixL L) k).length (rowL (pickL less (ixL L) k)) ∧ Below v2.heap.size v2 wr) (fun _ i _ => L.length - (intOf i).toNat)
              case atStart => exact ⟨0, Nat.zero_le _, rfl, World.ownsRow_nil _ _ _ _, Below.refl _ _⟩
              case round =>
                obtain ⟨k, hk, rfl, hO, hb⟩ := hrel
                obtain ⟨A3, c3, hve⟩ := own_form hO
                subst hve
                have HO := Lib.hid hO
                have HBL := Lib.hid hb
                have hz5 := hb.size
                have hlen := pickL_len less (ixL L) k
                clear hO hb
                by_cases hlk : k < L.length
                · have hlk' : (k : Int) < L.length := by omega
                  have hk32 : (k : Int) < 32 := by omega
                  obtain ⟨b, off, e, _, cs⟩ := (X9.out.below HBL.out) (by omega)
                  have ck := cs k hlk
                  subst e
                  clear cs
                  cases h1 : less.testBit k
                  · have HS1 := Lib.hid (pickL_skip (f := ixL L) h1)
                    have hb0 := bit32_zero hv h1
                    clear h1
                    go_wp2_with fail
                    go_roundw
                    case rel => exact ⟨k + 1, by omega, by go_num, by rw [HS1.out]; exact HO.out, HBL.out⟩
                    case measure => simp [intOf]; omega
                  · have HS1 := Lib.hid (pickL_take (f := ixL L) h1)
                    have hb0 := bit32_one hv h1
                    clear h1
                    generalize hK : (pickL less (ixL L) k).length = K at HO hlen ⊢
                    go_wp2_with (at_builtin; refine wpList_append_own_at _ rfl _ _ 22 rfl v2.heap.size 3 i0 (.int .i64 0) 1 8 Try.underlying22 hi hi0 hi1 hi2 rfl (by decide) (.slice A3 K c3) K (rowL (pickL less (ixL L) k)) rfl (HO.out.alloc _) ⟨_, 0, none⟩ 1 1 [.int .i64 (ixL L k)] rfl rfl (one_new _ _ _) (one_one _) (by unfold maxLen; omega) (by omega) (by simp; omega) ?_; intro vv w8 hown8 hgrow8 _ _; obtain ⟨A4, c4, hvv4⟩ := own_form hown8; subst hvv4)
                    go_roundw
                    case rel => exact ⟨k + 1, by omega, by go_num, by rw [HS1.out, List.length_append, hK, ← rowL_snoc]; exact hown8, (HBL.out.alloc (by omega) _).grown hgrow8 (by simp; omega) (fun q e => (HO.out.lt q e).1)⟩
                    case measure => simp [intOf]; omega
                · obtain rfl : k = L.length := by omega
                  have hrd : Rd wr wr.heap.size A3 (picks less L).length (fun j => .int .i64 (ixL (picks less L) j)) := by
                    have := Rd.of_own HO.out (fun j hj => rowL_at _ j hj); rwa [Nat.mul_one] at this
                  have hb := HBL.out
                  have B10 := Lib.hid (B9.out.trans (hb.mono B9.out.size))
                  have D10 := Lib.hid (show Below v2.heap.size v2 wr from hb)
                  have K10 := Lib.hid (K9.out.below hb K9.out.lt)
                  have X10 := Lib.hid (rd_step X9.out hb)
                  have hz10 := B10.out.size
                  clear hb B9 K9 X9 hz9
                  have hsK10 := K10.out.lt
                  clear hsK9
                  have Z10 := Lib.hid hrd
                  clear hrd
                  clear HO HBL hz5
                  have HPL : Hid ((picks less L).length ≤ 60) := Lib.hid (by have := pickL_len less (ixL L) L.length; unfold picks; omega)
                  rw [show pickL less (ixL L) L.length = picks less L from rfl]
                  have cK0 : wr.cell? ⟨w.heap.size, 0, none⟩ = some (.slice SA sn sc) := K10.out.cell 0
                  have cK1 : wr.cell? ⟨w.heap.size, 1, none⟩ = some (.slice CA n cc) := K10.out.cell 1
                  go_wp2_with fail
                  refine (HMYx.out (picks less L) A3 c3 _ B10.out hpk HPL.out Z10.out).mono ?_
                  rintro e v5 ⟨rfl, hb⟩
                  clear cK0 cK1
                  have B11 := Lib.hid (B10.out.trans (hb.mono B10.out.size))
                  have D11 := Lib.hid (D10.out.trans (hb.mono D10.out.size))
                  have K11 := Lib.hid (K10.out.below hb K10.out.lt)
                  have X11 := Lib.hid (rd_step X10.out hb)
                  have Z11 := Lib.hid (rd_step Z10.out hb)
                  have hz11 := B11.out.size
                  clear hb B10 D10 K10 X10 Z10 hz10
                  have hsK11 := K11.out.lt
                  clear hsK10
                  have HCTp := Lib.hid (HCTx.out (picks less L))
                  clear HCTx HMYx
                  generalize mo x (picks less L) = pv at HCTp ⊢
                  generalize mi x (picks less L) = pi
                  have hrea := Lib.hid hpk
                  clear hpk HLNx
                  generalize hPL : picks less L = PL at HCTp HPL hrea Z11 ⊢
                  clear hPL
                  go_upto_region 28 with fail
                  clear X11
                  clear D11
                  have cK0 : v5.cell? ⟨w.heap.size, 0, none⟩ = some (.slice SA sn sc) := K11.out.cell 0
                  have cK1 : v5.cell? ⟨w.heap.size, 1, none⟩ = some (.slice CA n cc) := K11.out.cell 1
                  go_upto_if 164 with fail
                  go_cut [32, 33] (fun s t wc => ∃ N1 H1 : Int, s = .int .i64 N1 ∧ t = .int .i64 H1 ∧ Hid (0 ≤ N1 ∧ N1 ≤ 1048577 ∧ (0 ≤ H1 ∧ H1 ≤ 4096) ∧ (n = 0 ∨ no (n - 1) < N1 ∧ hr (n - 1) ≤ H1)) ∧ Below v5.heap.size v5 wc)
                  case first =>
                    by_cases hn0 : n = 0
                    · subst hn0
                      go_wp2_with fail
                      go_meet
                      case rel => exact ⟨0, 0, rfl, rfl, Lib.hid ⟨by omega, by omega, ⟨by omega, by omega⟩, .inl (by first | rfl | trivial)⟩, Below.refl _ _⟩
                    · obtain ⟨hno, hhr, hcells⟩ := HLAST.out (by omega)
                      obtain ⟨b, off, e, _, k0, k1⟩ := hcells v5 B11.out
                      subst e
                      have hn0' : (0 : Int) < n := by omega
                      obtain ⟨k, hk⟩ : ∃ k, k = n - 1 := ⟨_, rfl⟩
                      have HKN : Hid (k = n - 1) := Lib.hid hk
                      have hkn : (k : Int) < n := by omega
                      rw [← hk] at k0 k1 hno hhr
                      have hwn : IntKind.i64.wrap ((n : Int) - 1) = (k : Int) := by rw [show (n : Int) - 1 = k by omega]; exact IntWalk.i64_in _ ⟨by omega, by omega⟩
                      clear hcells hk
                      have hwN : IntKind.i64.wrap (no k + 1) = no k + 1 := IntWalk.i64_in _ ⟨by omega, by omega⟩
                      go_upto_region 30 with fail
                      go_quiet (fail)
                      go_wp2_with fail
                      go_meet
                      case rel => exact ⟨no k + 1, hr k, rfl, rfl, Lib.hid (by rw [← HKN.out]; exact ⟨by omega, by omega, hhr, .inr ⟨by omega, by omega⟩⟩), below_quiet (Below.refl _ _) ⟨_, rfl⟩⟩
                  case rest =>
                    obtain ⟨N1, H1, rfl, rfl, hNH, hb⟩ := hcut
                    obtain ⟨y4, hyy⟩ : ∃ y, y = wc := ⟨_, rfl⟩
                    subst hyy
                    clear cK0 cK1
                    have B12 := Lib.hid (B11.out.trans (hb.mono B11.out.size))
                    have K12 := Lib.hid (K11.out.below hb K11.out.lt)
                    have Z12 := Lib.hid (rd_step Z11.out hb)
                    have hz12 := B12.out.size
                    clear hb B11 K11 Z11 hz11
                    have hsK12 := K12.out.lt
                    clear hsK11
                    have cK0 : y4.cell? ⟨w.heap.size, 0, none⟩ = some (.slice SA sn sc) := K12.out.cell 0
                    have cK1 : y4.cell? ⟨w.heap.size, 1, none⟩ = some (.slice CA n cc) := K12.out.cell 1
                    go_upto_region 32 with fail
                    have HZ4 := Lib.hid Z12.out
                    have hwy4 : w.heap.size < y4.heap.size := K12.out.lt
                    clear cK0 cK1
                    obtain ⟨u1, hbx⟩ : ∃ zz, zz = y4.alloc (.cells #[.slice SA sn sc, .slice CA n cc] 25) := ⟨_, rfl⟩
                    have NO : Blk u1 (y4.heap.size) 25 #[.slice SA sn sc, .slice CA n cc] := hbx ▸ ((Blk.new' rfl))
                    have hb : Below y4.heap.size y4 u1 := by rw [hbx]; (repeat (first | exact Below.refl _ _ | exact below_alloc _ _ | refine Below.alloc ?_ (by simp; omega) _ | refine Below.alloc ?_ (by simp) _))
                    rw [← hbx]
                    clear hbx
                    have B13 := Lib.hid (B12.out.trans (hb.mono B12.out.size))
                    have HBYX13 := Lib.hid (show Below y4.heap.size y4 u1 from hb)
                    have K13 := Lib.hid (K12.out.below hb K12.out.lt)
                    have Z13 := Lib.hid (rd_step Z12.out hb)
                    have hz13 := B13.out.size
                    clear hb B12 K12 Z12 hz12
                    have hsK13 := K13.out.lt
                    clear hsK12
                    have O13 := Lib.hid NO
                    clear NO
                    have hsO13 := O13.out.lt
                    have cK0 : u1.cell? ⟨w.heap.size, 0, none⟩ = some (.slice SA sn sc) := K13.out.cell 0
                    have fK0 : u1.frozen? ⟨w.heap.size, 0, none⟩ = false := K13.out.frozen 0
                    have cK1 : u1.cell? ⟨w.heap.size, 1, none⟩ = some (.slice CA n cc) := K13.out.cell 1
                    have fK1 : u1.frozen? ⟨w.heap.size, 1, none⟩ = false := K13.out.frozen 1
                    have cO0 : u1.cell? ⟨y4.heap.size, 0, none⟩ = some (.slice SA sn sc) := O13.out.cell 0
                    have fO0 : u1.frozen? ⟨y4.heap.size, 0, none⟩ = false := O13.out.frozen 0
                    have cO1 : u1.cell? ⟨y4.heap.size, 1, none⟩ = some (.slice CA n cc) := O13.out.cell 1
                    have fO1 : u1.frozen? ⟨y4.heap.size, 1, none⟩ = false := O13.out.frozen 1
                    have HY41 : Hid (Below y4.heap.size y4 u1) := HBYX13
                    have HNA : Hid (∀ W, Below u1.heap.size u1 W → ∀ a, CA = some a → ∀ j u, (rowC no hr wi FA fn fc RA rn rc n)[j]? = some u → W.cell? (a.add j) = some u) := Lib.hid fun W h => rowC_news (HCX.out W (B13.out.trans (h.mono B13.out.size)))
                    go_upto_region 33 with (first
                      | (at_builtin; refine wpList_append_any rfl _ _ 23 rfl u1.heap.size 44 i44 (.agg #[.int .i64 0, .int .i64 0, .int .i64 0, .slice none 0 0, .slice none 0 0]) 5 72 Try.underlying23 hj hj0 hj1 hj2 rfl (by decide) (.slice (some ⟨u1.heap.size, 0, none⟩) 0 0) 0 [] rfl (own_empty5 (Blk.new _ _ _) (Nat.le_refl _)) CA n cc (rowC no hr wi FA fn fc RA rn rc n) rfl rowC_len HCN.out (HNA.out _ (below_alloc _ _)) rowC_one (by unfold maxLen; omega) (by omega) (by simp) ?_; intro va wa hown1 hgrow1 _; rw [Nat.zero_add, List.nil_append] at hown1; obtain ⟨Aa, cva, hva⟩ := own_form hown1; subst hva; have hko1 := blk_of_grown (O13.out.alloc _) hgrow1 (fun e => (show u1.heap.size ≠ y4.heap.size by omega) (Option.some.inj e)); have hba := below_grown (below_alloc u1 (.cells #[] 44)) hgrow1 (fun q e => Nat.le_of_eq (Option.some.inj e)))
                      | (at_builtin; refine wpList_append_own_at _ rfl _ _ 23 rfl u1.heap.size 44 i44 (.agg #[.int .i64 0, .int .i64 0, .int .i64 0, .slice none 0 0, .slice none 0 0]) 5 72 Try.underlying23 hj hj0 hj1 hj2 rfl (by decide) (.slice Aa n cva) n (rowC no hr wi FA fn fc RA rn rc n) rfl (hown1.alloc _) ⟨_, 0, none⟩ 1 1 (newC N1 H1 x A m c A3 PL.length c3) rfl rfl (five_at (Blk.new' rfl)) newC_one (by unfold maxLen; omega) (by omega) (by have := hba.size; simp; omega) ?_; intro vb wb hown2 hgrow2 _ _; obtain ⟨Ab, cvb, hvb⟩ := own_form hown2; subst hvb; have hko2 := blk_of_grown (hko1.alloc _) hgrow2 (own_not hown1 (show y4.heap.size < u1.heap.size by omega)); have hbb := below_grown (hba.alloc hba.size _) hgrow2 (fun q e => (hown1.lt q e).1); have ck2 := hko2.cell 1; have fk2 := hko2.frozen 1))
                    obtain ⟨u2, hu⟩ : ∃ zz, zz = wb.setCell ⟨y4.heap.size, 1, none⟩ (.slice Ab (n + 1) cvb) := ⟨_, rfl⟩
                    rw [← hu]
                    have hyu : y4.heap.size < u1.heap.size := by omega
                    have hb42 : Below y4.heap.size u1 u2 := hu ▸ (hbb.mono (show y4.heap.size ≤ u1.heap.size by omega)).setCell (p := ⟨y4.heap.size, 1, none⟩) (Nat.le_refl _) _
                    have B2 : Hid (Below w.heap.size w u2) := Lib.hid (B13.out.trans (hb42.mono (by omega)))
                    have O2 : Hid (Blk u2 y4.heap.size 25 #[.slice SA sn sc, .slice Ab (n + 1) cvb]) := Lib.hid (hu ▸ hko2.set_ 1 _)
                    have W2 : Hid (u2.ownsRow u1.heap.size 44 5 (.slice Ab (n + 1) cvb) (n + 1) ((rowC no hr wi FA fn fc RA rn rc n) ++ newC N1 H1 x A m c A3 PL.length c3)) := Lib.hid (hu ▸ own_set hown2 hyu _)
                    have Z2 : Hid (Rd u2 u2.heap.size A3 PL.length (fun j => .int .i64 (ixL PL j))) := Lib.hid ((HZ4.out.below (HY41.out.trans hb42)).mono (by have := hb42.size; omega))
                    clear hu hb42 hko1 hko2 hba hbb hown1 hown2 hgrow1 hgrow2 ck2 fk2
                    clear cK0 fK0 cK1 fK1 cO0 fO0 cO1 fO1
                    clear K13 O13 Z13 B13
                    by_cases hN : 1048576 < N1
                    · go_wp2_with fail
                      go_ret
                      exact ⟨rfl, B2.out⟩
                    have cO0 : u2.cell? ⟨y4.heap.size, 0, none⟩ = some (.slice SA sn sc) := O2.out.cell 0
                    have cO1 : u2.cell? ⟨y4.heap.size, 1, none⟩ = some (.slice Ab (n + 1) cvb) := O2.out.cell 1
                    have hN' : N1 ≤ 1048576 := by omega
                    obtain ⟨g1, _, g2, g3⟩ := hNH.out
                    have HC := Lib.hid (HCTp.out N1 H1 u2 u1.heap.size A3 c3 Ab cvb hx01 hrea.out HPL.out ⟨g1, hN'⟩ ⟨g2, g3⟩ B2.out Z2.out W2.out)
                    clear g1 g2 g3 hN
                    go_wp2_with fail
                    refine HC.out.mono ?_
                    rintro e u3 ⟨⟨aa, bb, rfl⟩, hb⟩
                    have B3 := Lib.hid (B2.out.trans (hb.mono B2.out.size))
                    clear hb HC
                    cases pv
                    · go_wp2_with fail
                      go_ret
                      exact ⟨rfl, B3.out⟩
                    · go_wp2_with fail
                      go_ret
                      exact ⟨rfl, B3.out⟩
theorem court_row {SA CA : Option Addr} {sn sc n cc : Nat} {S no hr wi : Nat → Int} {FA RA : Nat → Option Addr} {fn fc rn rc : Nat → Nat} {F R : Nat → Nat → Int} (B : Nat) (A : Option Addr) (m c : Nat) (l : Nat → Int) (less sd : Int) (w : World) (hn : n ≤ cc ∧ cc ≤ 9223372036854775807) (hv : 0 ≤ less ∧ less ≤ 4294967295) (hsd : 0 ≤ sd ∧ sd ≤ 255) (hB : B ≤ w.heap.size) (hr0 : RdK w B SA sn S CA n no hr wi FA fn fc F RA rn rc R) (hf : Rd w B A m (fun j => .int .i64 (l j))) :
    Calls Try.prog 6 #[(.agg #[.slice SA sn sc, .slice CA n cc]), .slice A m c, .int .u32 less, .int .u8 sd] w fun e w' => e = .returned (.bool true) ∧ Below w.heap.size w w' := by
  obtain ⟨v, rfl⟩ : ∃ v : Nat, less = v := ⟨less.toNat, by omega⟩
  obtain ⟨u, rfl⟩ : ∃ u : Nat, sd = u := ⟨sd.toNat, by omega⟩
  exact court_6 B A m c l v u w hn (by omega) (by omega) hB hr0 hf
end Go.Proofs.Ytbojjhdcmogjdaa
