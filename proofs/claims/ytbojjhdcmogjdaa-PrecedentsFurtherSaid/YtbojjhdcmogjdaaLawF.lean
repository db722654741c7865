/- Contract of the law PrecedentsFurther: it returns true for every input. -/
import Derived.Test.YtbojjhdcmogjdaaLawE
namespace Go.Proofs.Ytbojjhdcmogjdaa
open Go.RowKit

theorem any_all (l : Nat → Int) (m k : Nat) : allB (fun _ => (k : Int)) l m 1 = hasB l k m := by simp [allB]

theorem one_at {w : World} {g : Nat} {x : Value} {t : TypeId} (h : Blk w g t #[x]) : ∀ j u, [x][j]? = some u → w.cell? ((⟨g, 0, none⟩ : Addr).add j) = some u := by
  intro j u hj
  rw [add_none, Nat.zero_add, h.cell]
  simpa using hj

set_option maxRecDepth 100000 in
set_option maxHeartbeats 4000000 in
theorem further_8 {SA CA : Option Addr} {sn sc n cc : Nat} {S no hr wi : Nat → Int} {FA RA : Nat → Option Addr} {fn fc rn rc : Nat → Nat} {F R : Nat → Nat → Int} (B : Nat) (A : Option Addr) (m c : Nat) (l : Nat → Int) (fa : Nat) (c4 : CaseC) (w : World) (hn : n ≤ cc ∧ cc ≤ 9223372036854775807) (hfa : fa ≤ 255) (hB : B ≤ w.heap.size) (hr0 : RdK w B SA sn S CA n no hr wi FA fn fc F RA rn rc R) (hf : Rd w B A m (fun j => .int .i64 (l j)))
    (hF : Rd w B c4.FA c4.fn (fun j => .int .i64 (c4.F j))) (hR : Rd w B c4.RA c4.rn (fun j => .int .i64 (c4.R j))) :
    Calls Try.prog 8 #[(.agg #[.slice SA sn sc, .slice CA n cc]), .slice A m c, .int .u8 fa, .agg #[.int .i64 c4.no, .int .i64 c4.hr, .int .i64 c4.wi, .slice c4.FA c4.fn c4.fc, .slice c4.RA c4.rn c4.rc]] w fun e w' => e = .returned (.bool true) ∧ Below w.heap.size w w' := by
  have HRT : Hid (∀ W, Below w.heap.size w W → Calls Try.prog 22 #[(.agg #[.slice SA sn sc, .slice CA n cc]), .slice A m c] W fun e w' => RtR (SmK sn n fn rn ∧ (chkE S sn n no hr wi fn F rn R) = 0 ∧ m ≤ 60 ∧ okS sn l m = true) e ∧ Below W.heap.size W w') := Lib.hid fun W h => right_22 B A m c l W (Nat.le_trans hn.1 hn.2) (Nat.le_trans hB h.size) (hr0.below (h.mono hB)) (hf.below (h.mono hB))
  obtain ⟨bo, hbo⟩ : ∃ bo : Nat → Bool, bo = fun (t : Nat) => (fstB (bndP S sn wi fn F rn R l m (t : Int)) 0 n).isSome := ⟨_, rfl⟩
  obtain ⟨bi, hbi⟩ : ∃ bi : Nat → Int, bi = fun (t : Nat) => (((fstB (bndP S sn wi fn F rn R l m (t : Int)) 0 n).getD 0 : Nat) : Int) := ⟨_, rfl⟩
  obtain ⟨MA, hMA⟩ : ∃ MA : World → Option Addr → Prop, MA = fun W A3 => RdK W W.heap.size SA sn S A3 (n + 1) (upd n no c4.no) (upd n hr c4.hr) (upd n wi c4.wi) (upd n FA c4.FA) (upd n fn c4.fn) (upd n fc c4.fc) (upd n F c4.F) (upd n RA c4.RA) (upd n rn c4.rn) (upd n rc c4.rc) (upd n R c4.R) := ⟨_, rfl⟩
  obtain ⟨Em, hEm⟩ : ∃ Em, Em = chkE S sn (n + 1) (upd n no c4.no) (upd n hr c4.hr) (upd n wi c4.wi) (upd n fn c4.fn) (upd n F c4.F) (upd n rn c4.rn) (upd n R c4.R) := ⟨_, rfl⟩
  obtain ⟨Sm, hSm⟩ : ∃ Sm : Prop, Sm = SmK sn (n + 1) (upd n fn c4.fn) (upd n rn c4.rn) := ⟨_, rfl⟩
  obtain ⟨Q2, hQ2⟩ : ∃ Q2 : Prop, Q2 = (Sm ∧ Em = 0) := ⟨_, rfl⟩
  have HQ2 : Hid (Sm → Em = 0 → Q2) := Lib.hid fun h1 h2 => hQ2 ▸ ⟨h1, h2⟩
  have HALL : Hid ((SmK sn n fn rn ∧ (chkE S sn n no hr wi fn F rn R) = 0 ∧ m ≤ 60 ∧ okS sn l m = true) →
      (∀ t : Nat, t < 2 → ∀ W, Below w.heap.size w W → Calls Try.prog 15 #[(.agg #[.slice SA sn sc, .slice CA n cc]), .slice A m c, .int .i64 t] W fun e w' => e = .returned (.tuple #[.int .i64 (bi t), .bool (bo t), .int .i64 0]) ∧ Below W.heap.size W w') ∧
      (∀ W base A3 c3, Below w.heap.size w W → W.ownsRow base 44 5 (.slice A3 (n + 1) c3) (n + 1) (rowC no hr wi FA fn fc RA rn rc n ++ newC c4.no c4.hr c4.wi c4.FA c4.fn c4.fc c4.RA c4.rn c4.rc) → MA W A3) ∧
      (∀ W W' A3, MA W A3 → Below W.heap.size W W' → MA W' A3) ∧
      (∀ W A3 c3, MA W A3 → Calls Try.prog 10 #[.agg #[.slice SA sn sc, .slice A3 (n + 1) c3]] W fun e w' => RtR Sm e ∧ Below W.heap.size W w') ∧
      (∀ W A3 c3, Sm → MA W A3 → Calls Try.prog 14 #[.agg #[.slice SA sn sc, .slice A3 (n + 1) c3]] W fun e w' => e = .returned (.int .i64 Em) ∧ Below W.heap.size W w') ∧
      (∀ W A3 c3, Q2 → MA W A3 → ∀ t : Nat, t < 2 → bo t = true → Below w.heap.size w W → Calls Try.prog 15 #[.agg #[.slice SA sn sc, .slice A3 (n + 1) c3], .slice A m c, .int .i64 t] W fun e w' => e = .returned (.tuple #[.int .i64 (bi t), .bool true, .int .i64 0]) ∧ Below W.heap.size W w') ∧
      (∀ t q : Nat, S q = (t : Int) → t < 2 → bo t = true → ∀ W A' c', Below w.heap.size w W → Rd W W.heap.size A' (addL sn l m q).length (fun j => .int .i64 (ixL (addL sn l m q) j)) → (addL sn l m q).length ≤ sn → Calls Try.prog 15 #[(.agg #[.slice SA sn sc, .slice CA n cc]), .slice A' (addL sn l m q).length c', .int .i64 t] W fun e w' => (∃ z : Int, e = .returned (.tuple #[.int .i64 z, .bool true, .int .i64 0])) ∧ Below W.heap.size W w') ∧
      (∀ W (k : Nat), Below w.heap.size w W → Calls Try.prog 24 #[.slice (some ⟨W.heap.size, 0, none⟩) 1 1, .slice A m c] (W.alloc (.cells #[.int .i64 (k : Int)] 3)) fun e w' => e = .returned (.bool (hasB l (k : Int) m)) ∧ W.alloc (.cells #[.int .i64 (k : Int)] 3) = w') ∧ sn ≤ 32) := Lib.hid fun ⟨hs, h0, hm, hl⟩ => by
    have hask : ∀ {n' : Nat} {no' hr' wi' : Nat → Int} {fn' : Nat → Nat} {F' : Nat → Nat → Int} {rn' : Nat → Nat} {R' : Nat → Nat → Int} {l' : Nat → Int} {m' : Nat} (x : Int), x = 0 ∨ x = 1 → okS sn l' m' = true → chkE S sn n' no' hr' wi' fn' F' rn' R' = 0 → askE (chkE S sn n' no' hr' wi' fn' F' rn' R') sn l' m' x = 0 := fun x hx hl h0 => by
      rw [askE, if_neg (by rw [h0]; simp), if_neg (by rw [hl]; simp), if_neg (by rw [inB_iff.2 (by omega)]; simp)]
    have h32 := (book_at h0).1
    refine ⟨fun t ht W h => ?_, fun W base A3 c3 h ho => ?_, fun W W' A3 hM h => ?_, fun W A3 c3 hM => ?_, fun W A3 c3 h1 hM => ?_, fun W A3 c3 h1 hM t ht hb h => ?_, fun t q hq ht hb W A' c' h hrd hlen => ?_, fun W k h => ?_, h32⟩
    · have h1 := Binds_15 (sc := sc) (cc := cc) B A m c l t W hs (by omega) (Nat.le_trans hB h.size) (hr0.below (h.mono hB)) (hf.below (h.mono hB))
      rw [hask t (by omega) hl h0] at h1
      refine h1.mono fun e w' h2 => ⟨?_, h2.2⟩
      rw [h2.1, hbo, hbi]
      simp [bdV]
    · rw [hMA]
      have hz := Nat.le_trans hB h.size
      exact (hr0.below (h.mono hB)).more hz ((hF.below (h.mono hB)).mono hz) ((hR.below (h.mono hB)).mono hz) ho
    · rw [hMA] at hM ⊢
      exact RdK.step hM h
    · rw [hMA] at hM
      rw [hSm]
      exact Few_10 (sc := sc) (cc := c3) W.heap.size W (by have := hs.2.1; omega) (Nat.le_refl _) hM
    · rw [hMA] at hM
      rw [hSm] at h1
      rw [hEm]
      exact ref_Check_14 (sc := sc) (cc := c3) W.heap.size W h1 (Nat.le_refl _) hM
    · rw [hMA] at hM
      rw [hQ2, hSm, hEm] at h1
      rw [hbo] at hb
      simp only at hb
      obtain ⟨k, hk⟩ := Option.isSome_iff_exists.1 hb
      have h2 := Binds_15 (sc := sc) (cc := c3) W.heap.size A m c l t W h1.1 (by omega) (Nat.le_refl _) hM ((hf.below (h.mono hB)).mono (Nat.le_trans hB h.size))
      rw [hask t (by omega) hl h1.2, bnd_more hk] at h2
      refine h2.mono fun e w' h3 => ⟨?_, h3.2⟩
      rw [h3.1, hbi]
      simp [bdV, hk]
    · rw [hbo] at hb
      simp only at hb
      have h1 := bnd_add h0 hl hq hb
      have hz := Nat.le_trans hB h.size
      have h2 := Binds_15 (sc := sc) (cc := cc) W.heap.size A' (addL sn l m q).length c' (ixL (addL sn l m q)) t W hs (by omega) (Nat.le_refl _) ((hr0.below (h.mono hB)).mono hz) hrd
      rw [hask t (by omega) addL_ok h0] at h2
      refine h2.mono fun e w' h3 => ⟨?_, h3.2⟩
      rw [h3.1]
      simp only [bdV, h1]
      exact ⟨_, by simp; rfl⟩
    · have hb := below_alloc W (.cells #[.int .i64 (k : Int)] 3)
      have h1 : Rd (W.alloc (.cells #[.int .i64 (k : Int)] 3)) (W.heap.size + 1) (some ⟨W.heap.size, 0, none⟩) 1 (fun _ => .int .i64 (k : Int)) := fun _ => ⟨_, _, rfl, by omega, fun j hj => by
        obtain rfl : j = 0 := by omega
        exact (Blk.new _ _ _).cell 0⟩
      have h2 := All_24 (some ⟨W.heap.size, 0, none⟩) A 1 1 m c (W.heap.size + 1) (fun _ => (k : Int)) l (W.alloc (.cells #[.int .i64 (k : Int)] 3)) (by omega) (by omega) h1 (((hf.below (h.mono hB)).below (hb.mono (Nat.le_trans hB h.size))).mono (by have := h.size; omega))
      rwa [any_all] at h2
  have HCX : Hid (∀ W, Below w.heap.size w W → Rd W B CA (n * 5) (csc no hr wi FA fn fc RA rn rc)) := Lib.hid fun W h => (hr0.below (h.mono hB)).2.1
  have HCN : Hid (CA = none → n = 0) := Lib.hid fun h => by have := rd_none (h ▸ hr0.2.1); omega
  have HSD : Hid (∀ W, Below w.heap.size w W → ∀ {q : Nat}, q < sn → ∃ b off, SA = some ⟨b, off, none⟩ ∧ b < B ∧ W.cell? ⟨b, off + q, none⟩ = some (.int .i64 (S q))) := Lib.hid fun W h q hq => (hr0.below (h.mono hB)).side hq
  clear hr0 hf hF hR hbo hbi hMA hEm hSm hQ2
  obtain ⟨hn1, hn2⟩ := hn
  go_enter Try.func8, Try.ntmps8
  go_upto_region 1 with fail
  obtain ⟨w0, hbx⟩ : ∃ zz, zz = (w.alloc (.cells #[.slice SA sn sc, .slice CA n cc] 25)).alloc (.cells #[.int .i64 c4.no, .int .i64 c4.hr, .int .i64 c4.wi, .slice c4.FA c4.fn c4.fc, .slice c4.RA c4.rn c4.rc] 44) := ⟨_, rfl⟩
  have NK : Blk w0 (w.heap.size) 25 #[.slice SA sn sc, .slice CA n cc] := hbx ▸ ((Blk.new' rfl) |>.alloc _)
  have NC : Blk w0 (w.heap.size + 1) 44 #[.int .i64 c4.no, .int .i64 c4.hr, .int .i64 c4.wi, .slice c4.FA c4.fn c4.fc, .slice c4.RA c4.rn c4.rc] := hbx ▸ ((Blk.new' (by simp)))
  have hb : Below w.heap.size w w0 := by rw [hbx]; (repeat (first | exact Below.refl _ _ | exact below_alloc _ _ | refine Below.alloc ?_ (by simp; omega) _ | refine Below.alloc ?_ (by simp) _))
  rw [← hbx]
  clear hbx
  have B1 := Lib.hid (show Below w.heap.size w w0 from hb)
  have hz1 := B1.out.size
  clear hb 
  have K1 := Lib.hid NK
  clear NK
  have hsK1 := K1.out.lt
  have C1 := Lib.hid NC
  clear NC
  have hsC1 := C1.out.lt
  go_wp2_with fail
  refine (sane_9 _).mono ?_
  rintro e w1 ⟨rfl, hb⟩
  have B2 := Lib.hid (B1.out.trans (hb.mono B1.out.size))
  have K2 := Lib.hid (K1.out.below hb K1.out.lt)
  have C2 := Lib.hid (C1.out.below hb C1.out.lt)
  have hz2 := B2.out.size
  clear hb B1 K1 C1 hz1
  have hsK2 := K2.out.lt
  have hsC2 := C2.out.lt
  clear hsK1 hsC1
  have cK0 : w1.cell? ⟨w.heap.size, 0, none⟩ = some (.slice SA sn sc) := K2.out.cell 0
  have cK1 : w1.cell? ⟨w.heap.size, 1, none⟩ = some (.slice CA n cc) := K2.out.cell 1
  go_wp2_with fail
  refine (HRT.out _ B2.out).mono ?_
  rintro e w2 ⟨⟨rt, rfl, hrt⟩, hb⟩
  clear cK0 cK1
  have B3 := Lib.hid (B2.out.trans (hb.mono B2.out.size))
  have K3 := Lib.hid (K2.out.below hb K2.out.lt)
  have C3 := Lib.hid (C2.out.below hb C2.out.lt)
  have hz3 := B3.out.size
  clear hb B2 K2 C2 hz2
  have hsK3 := K3.out.lt
  have hsC3 := C3.out.lt
  clear hsK2 hsC2
  cases rt with
  | false =>
    go_wp2_with fail
    go_ret
    exact ⟨rfl, B3.out⟩
  | true =>
    obtain ⟨hB1, hmo, hms, hm10, hm14, hm15, hadd, h24, hs32⟩ := HALL.out (hrt rfl)
    have HB1 := Lib.hid hB1
    have HMO := Lib.hid hmo
    have HMS := Lib.hid hms
    have HM10 := Lib.hid hm10
    have HM14 := Lib.hid hm14
    have HM15 := Lib.hid hm15
    have HADD := Lib.hid hadd
    have H24 := Lib.hid h24
    clear HALL hrt hB1 hmo hms hm10 hm14 hm15 hadd h24 HRT
    obtain ⟨i0, hi, hi0, hi1, hi2⟩ := info_parts info3
    obtain ⟨i44, hj, hj0, hj1, hj2⟩ := info_parts info44
    have cK0 : w2.cell? ⟨w.heap.size, 0, none⟩ = some (.slice SA sn sc) := K3.out.cell 0
    have cK1 : w2.cell? ⟨w.heap.size, 1, none⟩ = some (.slice CA n cc) := K3.out.cell 1
    by_cases hn60 : 60 < n
    · have hn60' : (60 : Int) < n := by omega
      go_wp2_with fail
      go_ret
      exact ⟨rfl, B3.out⟩
    have hn60' : (n : Int) ≤ 60 := by omega
    have hky : w.heap.size + 1 < w2.heap.size := C3.out.lt
    go_upto_region 6 with fail
    clear cK0 cK1
    obtain ⟨y4, hbx⟩ : ∃ zz, zz = w2.alloc (.cells #[.slice SA sn sc, .slice CA n cc] 25) := ⟨_, rfl⟩
    have NO : Blk y4 (w2.heap.size) 25 #[.slice SA sn sc, .slice CA n cc] := hbx ▸ ((Blk.new' rfl))
    have hb : Below w2.heap.size w2 y4 := by rw [hbx]; (repeat (first | exact Below.refl _ _ | exact below_alloc _ _ | refine Below.alloc ?_ (by simp; omega) _ | refine Below.alloc ?_ (by simp) _))
    rw [← hbx]
    clear hbx
    have B4 := Lib.hid (B3.out.trans (hb.mono B3.out.size))
    have K4 := Lib.hid (K3.out.below hb K3.out.lt)
    have C4 := Lib.hid (C3.out.below hb C3.out.lt)
    have hz4 := B4.out.size
    clear hb B3 K3 C3 hz3
    have hsK4 := K4.out.lt
    have hsC4 := C4.out.lt
    clear hsK3 hsC3
    have O4 := Lib.hid NO
    clear NO
    have hsO4 := O4.out.lt
    have hoy : w2.heap.size < y4.heap.size := O4.out.lt
    have HNA : Hid (∀ W, Below y4.heap.size y4 W → ∀ a, CA = some a → ∀ j u, (rowC no hr wi FA fn fc RA rn rc n)[j]? = some u → W.cell? (a.add j) = some u) := Lib.hid fun W h => rowC_news (HCX.out W (B4.out.trans (h.mono B4.out.size)))
    have HCELL : Hid (∀ w', Below y4.heap.size y4 w' → w'.cell? ⟨w.heap.size, 1, none⟩ = some (.slice CA n cc) ∧ w'.cell? ⟨w.heap.size + 1, 0, none⟩ = some (.int .i64 c4.no) ∧ w'.cell? ⟨w.heap.size + 1, 1, none⟩ = some (.int .i64 c4.hr) ∧ w'.cell? ⟨w.heap.size + 1, 2, none⟩ = some (.int .i64 c4.wi) ∧ w'.cell? ⟨w.heap.size + 1, 3, none⟩ = some (.slice c4.FA c4.fn c4.fc) ∧ w'.cell? ⟨w.heap.size + 1, 4, none⟩ = some (.slice c4.RA c4.rn c4.rc)) := Lib.hid fun w' h => by
      have g := K4.out.below h K4.out.lt
      have q := C4.out.below h C4.out.lt
      exact ⟨g.cell 1, q.cell 0, q.cell 1, q.cell 2, q.cell 3, q.cell 4⟩
    go_upto_region 6 with fail
    go_cut [] (fun y5 => ∃ Ab cvb, Blk y5 w2.heap.size 25 #[.slice SA sn sc, .slice Ab (n + 1) cvb] ∧ y5.ownsRow y4.heap.size 44 5 (.slice Ab (n + 1) cvb) (n + 1) ((rowC no hr wi FA fn fc RA rn rc n) ++ (newC c4.no c4.hr c4.wi c4.FA c4.fn c4.fc c4.RA c4.rn c4.rc)) ∧ Below w2.heap.size y4 y5)
    case first =>
      have hB0 : Below y4.heap.size y4 y4.drew := (Below.refl _ _).drew
      have hko : Blk y4.drew w2.heap.size 25 #[.slice SA sn sc, .slice CA n cc] := O4.out.drewN 1
      refine wp_region_tail (fun w' => Hid (Below y4.heap.size y4 w')) (fun w' => w'.cell? ⟨w.heap.size, 1, none⟩ = some (.slice CA n cc) ∧ w'.cell? ⟨w.heap.size + 1, 0, none⟩ = some (.int .i64 c4.no) ∧ w'.cell? ⟨w.heap.size + 1, 1, none⟩ = some (.int .i64 c4.hr) ∧ w'.cell? ⟨w.heap.size + 1, 2, none⟩ = some (.int .i64 c4.wi) ∧ w'.cell? ⟨w.heap.size + 1, 3, none⟩ = some (.slice c4.FA c4.fn c4.fc) ∧ w'.cell? ⟨w.heap.size + 1, 4, none⟩ = some (.slice c4.RA c4.rn c4.rc)) 8 8 (by kernel_rfl) ⟨Lib.hid hB0, HCELL.out _ hB0⟩ fun hHeld => ?_
      refine wpAnyT_takeB (i := 1) (v := .pointer (some ⟨w.heap.size, 1, none⟩)) rfl (by kernel_rfl) (by kernel_rfl) (by kernel_rfl) (by kernel_rfl) (by kernel_rfl) (by decide) (by decide) (fun _ _ _ h => h) (Or.inl ⟨by rfl, ?_⟩) hHeld ?_
      · intro w' hSw
        obtain ⟨s0, s1, s2, s3, s4, s5⟩ := hSw
        go_simp
      refine wpAnyT_takeB (i := 2) (v := .slice CA n cc) rfl (by kernel_rfl) (by kernel_rfl) (by kernel_rfl) (by kernel_rfl) (by kernel_rfl) (by decide) (by decide) (fun _ _ _ h => h) (Or.inl ⟨by rfl, ?_⟩) hHeld ?_
      · intro w' hSw
        obtain ⟨s0, s1, s2, s3, s4, s5⟩ := hSw
        go_simp
      refine wpAnyT_takeB (i := 4) (v := .agg #[.int .i64 c4.no, .int .i64 c4.hr, .int .i64 c4.wi, .slice c4.FA c4.fn c4.fc, .slice c4.RA c4.rn c4.rc]) rfl (by kernel_rfl) (by kernel_rfl) (by kernel_rfl) (by kernel_rfl) (by kernel_rfl) (by decide) (by decide) (fun _ _ _ h => h) (Or.inl ⟨by rfl, ?_⟩) hHeld ?_
      · intro w' hSw
        obtain ⟨s0, s1, s2, s3, s4, s5⟩ := hSw
        go_simp
      simp only [Act.put, List.setIfInBounds_toArray]
      clear hHeld
      generalize y4.drew = d0 at hB0 hko ⊢
      refine wpAnyT_two (i := 0) (j := 5) (by kernel_rfl) rfl rfl Ob.head Ob.head (fun K hK => ?_) (fun K hK => ?_)
      · go_simp
        obtain ⟨d1, hd⟩ : ∃ zz, zz = d0.alloc (.cells #[] 44) := ⟨_, rfl⟩
        have hB1 : Below y4.heap.size y4 d1 := hd ▸ hB0.alloc hB0.size _
        have hy1 := hB0.size
        have hko : Blk d1 w2.heap.size 25 #[.slice SA sn sc, .slice CA n cc] := hd ▸ hko.alloc _
        have hNg : Blk d1 d0.heap.size 44 #[] := hd ▸ Blk.new _ _ _
        have hlg := hNg.lt
        rw [← hd]
        clear hd
        refine hK.out _ _ ⟨Lib.hid hB1, HCELL.out _ hB1⟩ (fun _ => ?_)
        clear hK K
        refine wpAnyT_two (i := 3) (j := 5) (by kernel_rfl) rfl rfl Ob.head Ob.head (fun K hK => ?_) (fun K hK => ?_)
        · refine step_append_any rfl (.tmp 37) (.tmp 39) 23 rfl y4.heap.size 44 i44 (.agg #[.int .i64 0, .int .i64 0, .int .i64 0, .slice none 0 0, .slice none 0 0]) 5 72 Try.underlying23 hj hj0 hj1 hj2 rfl (by decide) (.slice (some ⟨d0.heap.size, 0, none⟩) 0 0) 0 [] rfl (own_empty5 hNg (by omega)) CA n cc (rowC no hr wi FA fn fc RA rn rc n) rfl rowC_len HCN.out (HNA.out _ hB1) rowC_one (by unfold maxLen; omega) (by omega) hB1.size ?_
          intro va d2 hown1 hgrow _
          rw [Nat.zero_add, List.nil_append] at hown1
          obtain ⟨Aa, cva, hva⟩ := own_form hown1
          subst hva
          have hB2 : Below y4.heap.size y4 d2 := below_grown hB1 hgrow (fun q e => by have := Option.some.inj e; simp at this; omega)
          have hko : Blk d2 w2.heap.size 25 #[.slice SA sn sc, .slice CA n cc] := blk_of_grown hko hgrow (fun e => by have := Option.some.inj e; simp at this; omega)
          clear hNg hgrow
          refine hK.out _ _ ⟨Lib.hid hB2, HCELL.out _ hB2⟩ (fun _ => ?_)
          clear hK K
          refine wpAnyT_one (i := 5) (by kernel_rfl) rfl Ob.head (fun K hK => ?_)
          go_simp
          obtain ⟨d3, hd⟩ : ∃ zz, zz = d2.alloc (.cells #[.int .i64 c4.no, .int .i64 c4.hr, .int .i64 c4.wi, .slice c4.FA c4.fn c4.fc, .slice c4.RA c4.rn c4.rc] 44) := ⟨_, rfl⟩
          have hB3 : Below y4.heap.size y4 d3 := hd ▸ hB2.alloc hB2.size _
          have hy3 := hB2.size
          have hko : Blk d3 w2.heap.size 25 #[.slice SA sn sc, .slice CA n cc] := hd ▸ hko.alloc _
          have hown1 := show d3.ownsRow y4.heap.size 44 5 (.slice Aa n cva) n (rowC no hr wi FA fn fc RA rn rc n) from hd ▸ hown1.alloc _
          have hN5 : Blk d3 d2.heap.size 44 #[.int .i64 c4.no, .int .i64 c4.hr, .int .i64 c4.wi, .slice c4.FA c4.fn c4.fc, .slice c4.RA c4.rn c4.rc] := hd ▸ Blk.new _ _ _
          have hl5 := hN5.lt
          rw [← hd]
          clear hd
          refine hK.out _ _ ⟨Lib.hid hB3, HCELL.out _ hB3⟩ (fun _ => ?_)
          clear hK K
          refine wpAnyT_one (i := 6) (by kernel_rfl) rfl Ob.head (fun K hK => ?_)
          refine step_append_any rfl (.tmp 40) (.tmp 42) 23 rfl y4.heap.size 44 i44 (.agg #[.int .i64 0, .int .i64 0, .int .i64 0, .slice none 0 0, .slice none 0 0]) 5 72 Try.underlying23 hj hj0 hj1 hj2 rfl (by decide) (.slice Aa n cva) n (rowC no hr wi FA fn fc RA rn rc n) rfl hown1 (some ⟨d2.heap.size, 0, none⟩) 1 1 (newC c4.no c4.hr c4.wi c4.FA c4.fn c4.fc c4.RA c4.rn c4.rc) rfl rfl (fun h => by cases h) (fun a ha => by cases ha; exact five_at hN5) newC_one (by unfold maxLen; omega) (by omega) hB3.size ?_
          intro vb d4 hown2 hgrow _
          obtain ⟨Ab, cvb, hvb⟩ := own_form hown2
          subst hvb
          have hB4 : Below y4.heap.size y4 d4 := below_grown hB3 hgrow (fun q e => (hown1.lt q e).1)
          have hko : Blk d4 w2.heap.size 25 #[.slice SA sn sc, .slice CA n cc] := blk_of_grown hko hgrow (own_not hown1 (by omega))
          clear hgrow hN5 hown1
          refine hK.out _ _ ⟨Lib.hid hB4, HCELL.out _ hB4⟩ (fun _ => ?_)
          clear hK K
          refine wpAnyT_one (i := 7) (by kernel_rfl) rfl Ob.head (fun K hK => ?_)
          go_simp
          refine hK.out _ _ ⟨Lib.hid hB4, HCELL.out _ hB4⟩ (fun _ => ?_)
          clear hK K
          refine wpAnyT_one (i := 8) (by kernel_rfl) rfl (Ob.last (by kernel_rfl) (by kernel_rfl)) (fun K hK => ?_)
          have ck := hko.cell 1
          have fk := hko.frozen 1
          go_simp
          refine hK.out _ _ trivial (fun _ => ?_)
          clear hK K
          refine wpAnyT_done (by kernel_rfl) ?_
          go_wp2_with fail
          go_meet
          case rel => exact ⟨_, _, hko.set_ 1 _, own_set hown2 (show w2.heap.size < y4.heap.size by omega) _, (hB4.mono (show w2.heap.size ≤ y4.heap.size by omega)).setCell (p := ⟨w2.heap.size, 1, none⟩) (Nat.le_refl _) _⟩
        · go_simp
          obtain ⟨d2, hd⟩ : ∃ zz, zz = d1.alloc (.cells #[.int .i64 c4.no, .int .i64 c4.hr, .int .i64 c4.wi, .slice c4.FA c4.fn c4.fc, .slice c4.RA c4.rn c4.rc] 44) := ⟨_, rfl⟩
          have hB2 : Below y4.heap.size y4 d2 := hd ▸ hB1.alloc hB1.size _
          have hy2 := hB1.size
          have hko : Blk d2 w2.heap.size 25 #[.slice SA sn sc, .slice CA n cc] := hd ▸ hko.alloc _
          have hNg : Blk d2 d0.heap.size 44 #[] := hd ▸ hNg.alloc _
          have hN5 : Blk d2 d1.heap.size 44 #[.int .i64 c4.no, .int .i64 c4.hr, .int .i64 c4.wi, .slice c4.FA c4.fn c4.fc, .slice c4.RA c4.rn c4.rc] := hd ▸ Blk.new _ _ _
          have hl5 := hN5.lt
          rw [← hd]
          clear hd
          refine hK.out _ _ ⟨Lib.hid hB2, HCELL.out _ hB2⟩ (fun _ => ?_)
          clear hK K
          refine wpAnyT_one (i := 3) (by kernel_rfl) rfl Ob.head (fun K hK => ?_)
          refine step_append_any rfl (.tmp 37) (.tmp 39) 23 rfl y4.heap.size 44 i44 (.agg #[.int .i64 0, .int .i64 0, .int .i64 0, .slice none 0 0, .slice none 0 0]) 5 72 Try.underlying23 hj hj0 hj1 hj2 rfl (by decide) (.slice (some ⟨d0.heap.size, 0, none⟩) 0 0) 0 [] rfl (own_empty5 hNg (by omega)) CA n cc (rowC no hr wi FA fn fc RA rn rc n) rfl rowC_len HCN.out (HNA.out _ hB2) rowC_one (by unfold maxLen; omega) (by omega) hB2.size ?_
          intro va d3 hown1 hgrow _
          rw [Nat.zero_add, List.nil_append] at hown1
          obtain ⟨Aa, cva, hva⟩ := own_form hown1
          subst hva
          have hB3 : Below y4.heap.size y4 d3 := below_grown hB2 hgrow (fun q e => by have := Option.some.inj e; simp at this; omega)
          have hko : Blk d3 w2.heap.size 25 #[.slice SA sn sc, .slice CA n cc] := blk_of_grown hko hgrow (fun e => by have := Option.some.inj e; simp at this; omega)
          have hN5 : Blk d3 d1.heap.size 44 #[.int .i64 c4.no, .int .i64 c4.hr, .int .i64 c4.wi, .slice c4.FA c4.fn c4.fc, .slice c4.RA c4.rn c4.rc] := blk_of_grown hN5 hgrow (fun e => by have := Option.some.inj e; simp at this; omega)
          clear hNg hgrow
          refine hK.out _ _ ⟨Lib.hid hB3, HCELL.out _ hB3⟩ (fun _ => ?_)
          clear hK K
          refine wpAnyT_one (i := 6) (by kernel_rfl) rfl Ob.head (fun K hK => ?_)
          refine step_append_any rfl (.tmp 40) (.tmp 42) 23 rfl y4.heap.size 44 i44 (.agg #[.int .i64 0, .int .i64 0, .int .i64 0, .slice none 0 0, .slice none 0 0]) 5 72 Try.underlying23 hj hj0 hj1 hj2 rfl (by decide) (.slice Aa n cva) n (rowC no hr wi FA fn fc RA rn rc n) rfl hown1 (some ⟨d1.heap.size, 0, none⟩) 1 1 (newC c4.no c4.hr c4.wi c4.FA c4.fn c4.fc c4.RA c4.rn c4.rc) rfl rfl (fun h => by cases h) (fun a ha => by cases ha; exact five_at hN5) newC_one (by unfold maxLen; omega) (by omega) hB3.size ?_
          intro vb d4 hown2 hgrow _
          obtain ⟨Ab, cvb, hvb⟩ := own_form hown2
          subst hvb
          have hB4 : Below y4.heap.size y4 d4 := below_grown hB3 hgrow (fun q e => (hown1.lt q e).1)
          have hko : Blk d4 w2.heap.size 25 #[.slice SA sn sc, .slice CA n cc] := blk_of_grown hko hgrow (own_not hown1 (by omega))
          clear hgrow hN5 hown1
          refine hK.out _ _ ⟨Lib.hid hB4, HCELL.out _ hB4⟩ (fun _ => ?_)
          clear hK K
          refine wpAnyT_one (i := 7) (by kernel_rfl) rfl Ob.head (fun K hK => ?_)
          go_simp
          refine hK.out _ _ ⟨Lib.hid hB4, HCELL.out _ hB4⟩ (fun _ => ?_)
          clear hK K
          refine wpAnyT_one (i := 8) (by kernel_rfl) rfl (Ob.last (by kernel_rfl) (by kernel_rfl)) (fun K hK => ?_)
          have ck := hko.cell 1
          have fk := hko.frozen 1
          go_simp
          refine hK.out _ _ trivial (fun _ => ?_)
          clear hK K
          refine wpAnyT_done (by kernel_rfl) ?_
          go_wp2_with fail
          go_meet
          case rel => exact ⟨_, _, hko.set_ 1 _, own_set hown2 (show w2.heap.size < y4.heap.size by omega) _, (hB4.mono (show w2.heap.size ≤ y4.heap.size by omega)).setCell (p := ⟨w2.heap.size, 1, none⟩) (Nat.le_refl _) _⟩
      · go_simp
        obtain ⟨d1, hd⟩ : ∃ zz, zz = d0.alloc (.cells #[.int .i64 c4.no, .int .i64 c4.hr, .int .i64 c4.wi, .slice c4.FA c4.fn c4.fc, .slice c4.RA c4.rn c4.rc] 44) := ⟨_, rfl⟩
        have hB1 : Below y4.heap.size y4 d1 := hd ▸ hB0.alloc hB0.size _
        have hy1 := hB0.size
        have hko : Blk d1 w2.heap.size 25 #[.slice SA sn sc, .slice CA n cc] := hd ▸ hko.alloc _
        have hN5 : Blk d1 d0.heap.size 44 #[.int .i64 c4.no, .int .i64 c4.hr, .int .i64 c4.wi, .slice c4.FA c4.fn c4.fc, .slice c4.RA c4.rn c4.rc] := hd ▸ Blk.new _ _ _
        have hl5 := hN5.lt
        rw [← hd]
        clear hd
        refine hK.out _ _ ⟨Lib.hid hB1, HCELL.out _ hB1⟩ (fun _ => ?_)
        clear hK K
        refine wpAnyT_one (i := 0) (by kernel_rfl) rfl Ob.head (fun K hK => ?_)
        go_simp
        obtain ⟨d2, hd⟩ : ∃ zz, zz = d1.alloc (.cells #[] 44) := ⟨_, rfl⟩
        have hB2 : Below y4.heap.size y4 d2 := hd ▸ hB1.alloc hB1.size _
        have hy2 := hB1.size
        have hko : Blk d2 w2.heap.size 25 #[.slice SA sn sc, .slice CA n cc] := hd ▸ hko.alloc _
        have hN5 : Blk d2 d0.heap.size 44 #[.int .i64 c4.no, .int .i64 c4.hr, .int .i64 c4.wi, .slice c4.FA c4.fn c4.fc, .slice c4.RA c4.rn c4.rc] := hd ▸ hN5.alloc _
        have hNg : Blk d2 d1.heap.size 44 #[] := hd ▸ Blk.new _ _ _
        have hlg := hNg.lt
        rw [← hd]
        clear hd
        refine hK.out _ _ ⟨Lib.hid hB2, HCELL.out _ hB2⟩ (fun _ => ?_)
        clear hK K
        refine wpAnyT_one (i := 3) (by kernel_rfl) rfl Ob.head (fun K hK => ?_)
        refine step_append_any rfl (.tmp 37) (.tmp 39) 23 rfl y4.heap.size 44 i44 (.agg #[.int .i64 0, .int .i64 0, .int .i64 0, .slice none 0 0, .slice none 0 0]) 5 72 Try.underlying23 hj hj0 hj1 hj2 rfl (by decide) (.slice (some ⟨d1.heap.size, 0, none⟩) 0 0) 0 [] rfl (own_empty5 hNg (by omega)) CA n cc (rowC no hr wi FA fn fc RA rn rc n) rfl rowC_len HCN.out (HNA.out _ hB2) rowC_one (by unfold maxLen; omega) (by omega) hB2.size ?_
        intro va d3 hown1 hgrow _
        rw [Nat.zero_add, List.nil_append] at hown1
        obtain ⟨Aa, cva, hva⟩ := own_form hown1
        subst hva
        have hB3 : Below y4.heap.size y4 d3 := below_grown hB2 hgrow (fun q e => by have := Option.some.inj e; simp at this; omega)
        have hko : Blk d3 w2.heap.size 25 #[.slice SA sn sc, .slice CA n cc] := blk_of_grown hko hgrow (fun e => by have := Option.some.inj e; simp at this; omega)
        have hN5 : Blk d3 d0.heap.size 44 #[.int .i64 c4.no, .int .i64 c4.hr, .int .i64 c4.wi, .slice c4.FA c4.fn c4.fc, .slice c4.RA c4.rn c4.rc] := blk_of_grown hN5 hgrow (fun e => by have := Option.some.inj e; simp at this; omega)
        clear hNg hgrow
        refine hK.out _ _ ⟨Lib.hid hB3, HCELL.out _ hB3⟩ (fun _ => ?_)
        clear hK K
        refine wpAnyT_one (i := 6) (by kernel_rfl) rfl Ob.head (fun K hK => ?_)
        refine step_append_any rfl (.tmp 40) (.tmp 42) 23 rfl y4.heap.size 44 i44 (.agg #[.int .i64 0, .int .i64 0, .int .i64 0, .slice none 0 0, .slice none 0 0]) 5 72 Try.underlying23 hj hj0 hj1 hj2 rfl (by decide) (.slice Aa n cva) n (rowC no hr wi FA fn fc RA rn rc n) rfl hown1 (some ⟨d0.heap.size, 0, none⟩) 1 1 (newC c4.no c4.hr c4.wi c4.FA c4.fn c4.fc c4.RA c4.rn c4.rc) rfl rfl (fun h => by cases h) (fun a ha => by cases ha; exact five_at hN5) newC_one (by unfold maxLen; omega) (by omega) hB3.size ?_
        intro vb d4 hown2 hgrow _
        obtain ⟨Ab, cvb, hvb⟩ := own_form hown2
        subst hvb
        have hB4 : Below y4.heap.size y4 d4 := below_grown hB3 hgrow (fun q e => (hown1.lt q e).1)
        have hko : Blk d4 w2.heap.size 25 #[.slice SA sn sc, .slice CA n cc] := blk_of_grown hko hgrow (own_not hown1 (by omega))
        clear hgrow hN5 hown1
        refine hK.out _ _ ⟨Lib.hid hB4, HCELL.out _ hB4⟩ (fun _ => ?_)
        clear hK K
        refine wpAnyT_one (i := 7) (by kernel_rfl) rfl Ob.head (fun K hK => ?_)
        go_simp
        refine hK.out _ _ ⟨Lib.hid hB4, HCELL.out _ hB4⟩ (fun _ => ?_)
        clear hK K
        refine wpAnyT_one (i := 8) (by kernel_rfl) rfl (Ob.last (by kernel_rfl) (by kernel_rfl)) (fun K hK => ?_)
        have ck := hko.cell 1
        have fk := hko.frozen 1
        go_simp
        refine hK.out _ _ trivial (fun _ => ?_)
        clear hK K
        refine wpAnyT_done (by kernel_rfl) ?_
        go_wp2_with fail
        go_meet
        case rel => exact ⟨_, _, hko.set_ 1 _, own_set hown2 (show w2.heap.size < y4.heap.size by omega) _, (hB4.mono (show w2.heap.size ≤ y4.heap.size by omega)).setCell (p := ⟨w2.heap.size, 1, none⟩) (Nat.le_refl _) _⟩
    case rest =>
      obtain ⟨A3, c3, hO, hW, hb⟩ := hcut
      obtain ⟨y5, hyy⟩ : ∃ y, y = wc := ⟨_, rfl⟩
      subst hyy
      have hbk : Below w.heap.size y4 y5 := hb.mono (by omega)
      have B5 : Hid (Below w.heap.size w y5) := Lib.hid (B4.out.trans hbk)
      have K5 := Lib.hid (K4.out.below hb (by omega))
      have O5 := Lib.hid hO
      have M5 := Lib.hid (HMO.out _ _ _ _ B5.out hW)
      have hz5 := B5.out.size
      clear hbk hb hO hW B4 K4 O4 C4 hz4 hsK4 hsO4 hsC4 HNA HCELL HMO HCX HCN hj hj0 hj1 hj2
      have hsK5 := K5.out.lt
      have hsO5 := O5.out.lt
      have cO0 : y5.cell? ⟨w2.heap.size, 0, none⟩ = some (.slice SA sn sc) := O5.out.cell 0
      have cO1 : y5.cell? ⟨w2.heap.size, 1, none⟩ = some (.slice A3 (n + 1) c3) := O5.out.cell 1
      go_upto_region 7 with fail
      go_cut [10] (fun s10 y6 => ∃ fb : Bool, s10 = .bool fb ∧ Hid (fb = true → Q2) ∧ Below y5.heap.size y5 y6)
      case first =>
        go_wp2_with fail
        refine (HM10.out _ _ c3 M5.out).mono ?_
        rintro e z1 ⟨⟨few, rfl, hfew⟩, hb⟩
        have HBZ := Lib.hid hb
        have M6 := Lib.hid (HMS.out _ _ _ M5.out hb)
        have O6 := Lib.hid (O5.out.below hb O5.out.lt)
        clear hb
        clear cO0 cO1
        have cO0 : z1.cell? ⟨w2.heap.size, 0, none⟩ = some (.slice SA sn sc) := O6.out.cell 0
        have cO1 : z1.cell? ⟨w2.heap.size, 1, none⟩ = some (.slice A3 (n + 1) c3) := O6.out.cell 1
        cases few with
        | false =>
          go_wp2_with fail
          go_meet
          case rel => exact ⟨false, rfl, Lib.hid (fun h => by cases h), HBZ.out⟩
        | true =>
          go_wp2_with fail
          refine (HM14.out _ _ c3 (hfew (by first | rfl | trivial)) M6.out).mono ?_
          rintro e z2 ⟨rfl, hb⟩
          have HBY := Lib.hid (HBZ.out.trans (hb.mono HBZ.out.size))
          clear hb
          by_cases hE : Em = 0
          · have HQ := Lib.hid (HQ2.out (hfew (by first | rfl | trivial)) hE)
            rw [hE]
            go_wp2_with fail
            go_meet
            case rel => exact ⟨true, rfl, Lib.hid (fun _ => HQ.out), HBY.out⟩
          · have hE' : (Em == 0) = false := by simpa using hE
            go_wp2_with fail
            go_meet
            case rel => exact ⟨false, rfl, Lib.hid (fun h => by cases h), HBY.out⟩
      case rest =>
        obtain ⟨fb, rfl, hfb, hb⟩ := hcut
        obtain ⟨y6, hyy⟩ : ∃ y, y = wc := ⟨_, rfl⟩
        subst hyy
        clear cO0 cO1
        have B6 := Lib.hid (B5.out.trans (hb.mono B5.out.size))
        have K6 := Lib.hid (K5.out.below hb K5.out.lt)
        have O6 := Lib.hid (O5.out.below hb O5.out.lt)
        have M6 := Lib.hid (HMS.out _ _ _ M5.out hb)
        have hz6 := B6.out.size
        clear hb B5 K5 O5 M5 hz5
        have hsK6 := K6.out.lt
        have hsO6 := O6.out.lt
        clear hsK5 hsO5
        clear HM10 HM14
        go_wp2_with fail
        go_loopw [52] (fun i wr => ∃ t : Nat, t ≤ 2 ∧ i = .int .i64 t ∧ Below y6.heap.size y6 wr) (fun i _ => 2 - (intOf i).toNat)
        case atStart => exact ⟨0, Nat.zero_le _, rfl, Below.refl _ _⟩
        case round =>
          obtain ⟨t, ht, rfl, hb⟩ := hrel
          have B7 := Lib.hid (B6.out.trans (hb.mono B6.out.size))
          have C7 := Lib.hid (show Below y6.heap.size y6 wr from hb)
          have K7 := Lib.hid (K6.out.below hb K6.out.lt)
          have O7 := Lib.hid (O6.out.below hb O6.out.lt)
          have M7 := Lib.hid (HMS.out _ _ _ M6.out hb)
          have hz7 := B7.out.size
          clear hb B6 K6 O6 M6 hz6
          have hsK7 := K7.out.lt
          have hsO7 := O7.out.lt
          clear hsK6 hsO6
          by_cases hlt : t < 2
          · have hlt' : (t : Int) < 2 := by omega
            have cK0 : wr.cell? ⟨w.heap.size, 0, none⟩ = some (.slice SA sn sc) := K7.out.cell 0
            have cK1 : wr.cell? ⟨w.heap.size, 1, none⟩ = some (.slice CA n cc) := K7.out.cell 1
            go_wp2_with fail
            refine (HB1.out t hlt _ B7.out).mono ?_
            rintro e v1 ⟨rfl, hb⟩
            clear cK0 cK1
            have B8 := Lib.hid (B7.out.trans (hb.mono B7.out.size))
            have C8 := Lib.hid (C7.out.trans (hb.mono C7.out.size))
            have K8 := Lib.hid (K7.out.below hb K7.out.lt)
            have O8 := Lib.hid (O7.out.below hb O7.out.lt)
            have M8 := Lib.hid (HMS.out _ _ _ M7.out hb)
            have hz8 := B8.out.size
            clear hb B7 C7 K7 O7 M7 hz7
            have hsK8 := K8.out.lt
            have hsO8 := O8.out.lt
            clear hsK7 hsO7
            generalize hbt : bo t = bt
            have HBT := Lib.hid hbt
            clear hbt
            cases bt with
            | false =>
              go_wp2_with fail
              go_roundw
              case rel => exact ⟨t + 1, by omega, by go_num, C8.out⟩
              case measure => simp [intOf]; omega
            | true =>
              go_upto_if 67 with fail
              have cO0 : v1.cell? ⟨w2.heap.size, 0, none⟩ = some (.slice SA sn sc) := O8.out.cell 0
              have cO1 : v1.cell? ⟨w2.heap.size, 1, none⟩ = some (.slice A3 (n + 1) c3) := O8.out.cell 1
              go_cut [] (fun v2 => Below v1.heap.size v1 v2)
              case first =>
                cases fb with
                | false =>
                  go_wp2_with fail
                  go_meet
                  case rel => exact Below.refl _ _
                | true =>
                  have HC := Lib.hid (HM15.out _ _ c3 (hfb.out rfl) M8.out t hlt HBT.out B8.out)
                  go_wp2_with fail
                  refine HC.out.mono ?_
                  rintro e z1 ⟨rfl, hb⟩
                  go_wp2_with fail
                  go_meet
                  case rel => exact hb
              case rest =>
                have hb := hcut
                clear hcut
                obtain ⟨v2, hyy⟩ : ∃ y, y = wc := ⟨_, rfl⟩
                subst hyy
                clear cO0 cO1
                have B9 := Lib.hid (B8.out.trans (hb.mono B8.out.size))
                have C9 := Lib.hid (C8.out.trans (hb.mono C8.out.size))
                have K9 := Lib.hid (K8.out.below hb K8.out.lt)
                have O9 := Lib.hid (O8.out.below hb O8.out.lt)
                have M9 := Lib.hid (HMS.out _ _ _ M8.out hb)
                have hz9 := B9.out.size
                clear hb B8 C8 K8 O8 M8 hz8
                have hsK9 := K9.out.lt
                have hsO9 := O9.out.lt
                clear hsK8 hsO8
                by_cases hs0 : sn = 0
                · have cK0 : v2.cell? ⟨w.heap.size, 0, none⟩ = some (.slice SA sn sc) := K9.out.cell 0
                  have cK1 : v2.cell? ⟨w.heap.size, 1, none⟩ = some (.slice CA n cc) := K9.out.cell 1
                  subst hs0
                  go_wp2_with fail
                  go_roundw
                  case rel => exact ⟨t + 1, by omega, by go_num, C9.out⟩
                  case measure => simp [intOf]; omega
                have hsn0 : ((sn : Int) == 0) = false := by simp; omega
                have hs32' : (sn : Int) ≤ 32 := by omega
                obtain ⟨q, hqe⟩ : ∃ q : Nat, (fa : Int) % (sn : Int) = q := ⟨((fa : Int) % (sn : Int)).toNat, by have := Int.emod_nonneg (fa : Int) (show (sn : Int) ≠ 0 by omega); omega⟩
                have hq : q < sn := by have := Int.emod_lt_of_pos (fa : Int) (show (0 : Int) < sn by omega); omega
                have hq' : (q : Int) < sn := by omega
                have cK0 : v2.cell? ⟨w.heap.size, 0, none⟩ = some (.slice SA sn sc) := K9.out.cell 0
                have cK1 : v2.cell? ⟨w.heap.size, 1, none⟩ = some (.slice CA n cc) := K9.out.cell 1
                go_upto_region 21 with fail
                rw [hqe]
                clear hqe
                obtain ⟨b, off, e, _, cs⟩ := HSD.out v2 B9.out hq
                have HSQ : Hid (∃ y, y = S q) := Lib.hid ⟨_, rfl⟩
                obtain ⟨y, hy⟩ := HSQ.out
                clear HSQ
                rw [← hy] at cs
                have HY := Lib.hid hy
                clear hy
                subst e
                clear cK0 cK1
                have cK0 : v2.cell? ⟨w.heap.size, 0, none⟩ = some (.slice (some ⟨b, off, none⟩) sn sc) := K9.out.cell 0
                have cK1 : v2.cell? ⟨w.heap.size, 1, none⟩ = some (.slice CA n cc) := K9.out.cell 1
                by_cases hyt : y = (t : Int)
                · subst hyt
                  have HAD := Lib.hid (HADD.out t q HY.out.symm hlt HBT.out)
                  go_upto_region 23 with fail
                  clear cs
                  have cK0 : v2.cell? ⟨w.heap.size, 0, none⟩ = some (.slice (some ⟨b, off, none⟩) sn sc) := K9.out.cell 0
                  have cK1 : v2.cell? ⟨w.heap.size, 1, none⟩ = some (.slice CA n cc) := K9.out.cell 1
                  have hsz0 := B9.out.size
                  go_wp2_with fail
                  go_loopw [19, 107] (fun v i wr => ∃ k : Nat, k ≤ sn ∧ i = .int .i64 k ∧ wr.ownsRow v2.heap.size 3 1 v (fltL (fun z => decide (z = (q : Int)) || hasB l z m) (fun k => (k : Int)) k).length (rowL (fltL (fun z => decide (z = (q : Int)) || hasB l z m) (fun k => (k : Int)) k)) ∧ Below v2.heap.size v2 wr) (fun _ i _ => sn - (intOf i).toNat)
                  case atStart => exact ⟨0, Nat.zero_le _, rfl, World.ownsRow_nil _ _ _ _, Below.refl _ _⟩
                  case round =>
                    obtain ⟨k, hk, rfl, hO, hb⟩ := hrel
                    obtain ⟨A5, c5, hve⟩ := own_form hO
                    subst hve
                    have HO := Lib.hid hO
                    have HBL := Lib.hid hb
                    have hz5 := hb.size
                    have hlen := fltL_len (fun z => decide (z = (q : Int)) || hasB l z m) (fun k => (k : Int)) k
                    have HBW := Lib.hid (B9.out.trans (hb.mono hsz0))
                    clear hO hb
                    by_cases hlk : k < sn
                    · have hlk' : (k : Int) < sn := by omega
                      have take : Hid ((decide ((k : Int) = (q : Int)) || hasB l (k : Int) m) = true → fltL (fun z => decide (z = (q : Int)) || hasB l z m) (fun k => (k : Int)) (k + 1) = fltL (fun z => decide (z = (q : Int)) || hasB l z m) (fun k => (k : Int)) k ++ [(k : Int)]) := Lib.hid fun h => by rw [fltL, if_pos h]
                      have skip : Hid ((decide ((k : Int) = (q : Int)) || hasB l (k : Int) m) = false → fltL (fun z => decide (z = (q : Int)) || hasB l z m) (fun k => (k : Int)) (k + 1) = fltL (fun z => decide (z = (q : Int)) || hasB l z m) (fun k => (k : Int)) k) := Lib.hid fun h => by rw [fltL, if_neg (by rw [h]; simp)]
                      generalize hLk : fltL (fun z => decide (z = (q : Int)) || hasB l z m) (fun k => (k : Int)) k = Lk at HO hlen take skip ⊢
                      clear hLk
                      by_cases hkq : k = q
                      · have HS1 := Lib.hid (take.out (by simp [hkq]))
                        have hkq' : ((k : Int) == q) = true := by simp [hkq]
                        clear hkq
                        clear take skip
                        generalize hK : Lk.length = KK at HO hlen ⊢
                        go_wp2_with (at_builtin; refine wpList_append_own_at _ rfl _ _ 22 rfl v2.heap.size 3 i0 (.int .i64 0) 1 8 Try.underlying22 hi hi0 hi1 hi2 rfl (by decide) (.slice A5 KK c5) KK (rowL Lk) rfl (HO.out.alloc _) ⟨_, 0, none⟩ 1 1 [.int .i64 (k : Nat)] rfl rfl (one_new _ _ _) (one_one _) (by unfold maxLen; omega) (by omega) (by simp; omega) ?_; intro vv w8 hown8 hgrow8 _ _; obtain ⟨A6, c6, hvv6⟩ := own_form hown8; subst hvv6)
                        go_roundw
                        case rel => exact ⟨k + 1, by omega, by go_num, by rw [HS1.out, List.length_append, hK, ← rowL_snoc]; exact hown8, (HBL.out.alloc (by omega) _).grown hgrow8 (by simp; omega) (fun q e => (HO.out.lt q e).1)⟩
                        case measure => simp [intOf]; omega
                      · have hkq' : ((k : Int) == q) = false := by simp; omega
                        have hkd : decide ((k : Int) = (q : Int)) = false := by simp; omega
                        rw [hkd, Bool.false_or] at take skip
                        go_wp2_with fail
                        refine (H24.out wr k HBW.out).mono ?_
                        rintro e wy ⟨rfl, rfl⟩
                        generalize hasB l (k : Int) m = hh at take skip ⊢
                        cases hh with
                        | false =>
                          have HS1 := Lib.hid (skip.out rfl)
                          go_wp2_with fail
                          go_roundw
                          case rel => exact ⟨k + 1, by omega, by go_num, by rw [HS1.out]; exact HO.out.alloc _, HBL.out.alloc hz5 _⟩
                          case measure => simp [intOf]; omega
                        | true =>
                          have HS1 := Lib.hid (take.out rfl)
                          clear take skip
                          generalize hK : Lk.length = KK at HO hlen ⊢
                          go_wp2_with (at_builtin; refine wpList_append_own_at _ rfl _ _ 22 rfl v2.heap.size 3 i0 (.int .i64 0) 1 8 Try.underlying22 hi hi0 hi1 hi2 rfl (by decide) (.slice A5 KK c5) KK (rowL Lk) rfl ((HO.out.alloc _).alloc _) ⟨_, 0, none⟩ 1 1 [.int .i64 (k : Nat)] rfl rfl (one_at (Blk.new' (by simp))) (one_one _) (by unfold maxLen; omega) (by omega) (by simp; omega) ?_; intro vv w8 hown8 hgrow8 _ _; obtain ⟨A6, c6, hvv6⟩ := own_form hown8; subst hvv6)
                          go_roundw
                          case rel => exact ⟨k + 1, by omega, by go_num, by rw [HS1.out, List.length_append, hK, ← rowL_snoc]; exact hown8, ((HBL.out.alloc (by omega) _).alloc (by simp; omega) _).grown hgrow8 (by simp; omega) (fun q e => (HO.out.lt q e).1)⟩
                          case measure => simp [intOf]; omega
                    · have hks : k = sn := by omega
                      subst k
                      have hrd : Rd wr wr.heap.size A5 (addL sn l m q).length (fun j => .int .i64 (ixL (addL sn l m q) j)) := by
                        have := Rd.of_own HO.out (fun j hj => rowL_at _ j hj); rwa [Nat.mul_one] at this
                      have hb := HBL.out
                      clear cK0 cK1
                      have B10 := Lib.hid (B9.out.trans (hb.mono B9.out.size))
                      have C10 := Lib.hid (C9.out.trans (hb.mono C9.out.size))
                      have D10 := Lib.hid (show Below v2.heap.size v2 wr from hb)
                      have K10 := Lib.hid (K9.out.below hb K9.out.lt)
                      have O10 := Lib.hid (O9.out.below hb O9.out.lt)
                      have M10 := Lib.hid (HMS.out _ _ _ M9.out hb)
                      have hz10 := B10.out.size
                      clear hb B9 C9 K9 O9 M9 hz9
                      have hsK10 := K10.out.lt
                      have hsO10 := O10.out.lt
                      clear hsK9 hsO9
                      have Z10 := Lib.hid hrd
                      clear hrd
                      clear HO HBL hz5 HBW
                      rw [show fltL (fun z => decide (z = (q : Int)) || hasB l z m) (fun k => (k : Int)) sn = addL sn l m q from rfl]
                      have cK0 : wr.cell? ⟨w.heap.size, 0, none⟩ = some (.slice (some ⟨b, off, none⟩) sn sc) := K10.out.cell 0
                      have cK1 : wr.cell? ⟨w.heap.size, 1, none⟩ = some (.slice CA n cc) := K10.out.cell 1
                      go_wp2_with fail
                      refine (HAD.out _ A5 c5 B10.out Z10.out hlen).mono ?_
                      rintro e v5 ⟨⟨zz, rfl⟩, hb⟩
                      clear cK0 cK1
                      have B11 := Lib.hid (B10.out.trans (hb.mono B10.out.size))
                      have C11 := Lib.hid (C10.out.trans (hb.mono C10.out.size))
                      have D11 := Lib.hid (D10.out.trans (hb.mono D10.out.size))
                      have K11 := Lib.hid (K10.out.below hb K10.out.lt)
                      have O11 := Lib.hid (O10.out.below hb O10.out.lt)
                      have M11 := Lib.hid (HMS.out _ _ _ M10.out hb)
                      have Z11 := Lib.hid (rd_step Z10.out hb)
                      have hz11 := B11.out.size
                      clear hb B10 C10 D10 K10 O10 M10 Z10 hz10
                      have hsK11 := K11.out.lt
                      have hsO11 := O11.out.lt
                      clear hsK10 hsO10
                      go_wp2_with fail
                      go_roundw
                      case rel => exact ⟨t + 1, by omega, by go_num, C11.out⟩
                      case measure => simp [intOf]; omega
                · have hyt' : (y != (t : Int)) = true := by simpa using hyt
                  go_wp2_with fail
                  go_roundw
                  case rel => exact ⟨t + 1, by omega, by go_num, C9.out⟩
                  case measure => simp [intOf]; omega
          · obtain rfl : t = 2 := by omega
            go_wp2_with fail
            go_ret
            exact ⟨rfl, B7.out⟩
theorem further_row {SA CA : Option Addr} {sn sc n cc : Nat} {S no hr wi : Nat → Int} {FA RA : Nat → Option Addr} {fn fc rn rc : Nat → Nat} {F R : Nat → Nat → Int} (B : Nat) (A : Option Addr) (m c : Nat) (l : Nat → Int) (fa : Int) (c4 : CaseC) (w : World) (hn : n ≤ cc ∧ cc ≤ 9223372036854775807) (hfa : 0 ≤ fa ∧ fa ≤ 255) (hB : B ≤ w.heap.size) (hr0 : RdK w B SA sn S CA n no hr wi FA fn fc F RA rn rc R) (hf : Rd w B A m (fun j => .int .i64 (l j)))
    (hF : Rd w B c4.FA c4.fn (fun j => .int .i64 (c4.F j))) (hR : Rd w B c4.RA c4.rn (fun j => .int .i64 (c4.R j))) :
    Calls Try.prog 8 #[(.agg #[.slice SA sn sc, .slice CA n cc]), .slice A m c, .int .u8 fa, .agg #[.int .i64 c4.no, .int .i64 c4.hr, .int .i64 c4.wi, .slice c4.FA c4.fn c4.fc, .slice c4.RA c4.rn c4.rc]] w fun e w' => e = .returned (.bool true) ∧ Below w.heap.size w w' := by
  obtain ⟨v, rfl⟩ : ∃ v : Nat, fa = v := ⟨fa.toNat, by omega⟩
  exact further_8 B A m c l v c4 w hn (by omega) hB hr0 hf hF hR
end Go.Proofs.Ytbojjhdcmogjdaa
