/- Contract of Missing. -/
import Derived.Test.YtbojjhdcmogjdaaRefClash
namespace Go.Proofs.Ytbojjhdcmogjdaa
open Go.RowKit

/-- the numbers of a list that fulfil a test -/
def fltL (p : Int → Bool) (l : Nat → Int) : Nat → List Int
  | 0 => []
  | k + 1 => if p (l k) = true then fltL p l k ++ [l k] else fltL p l k
theorem fltL_len (p : Int → Bool) (l : Nat → Int) : ∀ k, (fltL p l k).length ≤ k
  | 0 => Nat.le_refl _
  | k + 1 => by
    have := fltL_len p l k
    unfold fltL
    split
    · rw [List.length_append, List.length_singleton]; omega
    · omega
theorem fltL_mem {p : Int → Bool} {l : Nat → Int} {x : Int} : ∀ k, x ∈ fltL p l k ↔ p x = true ∧ hasB l x k = true
  | 0 => by simp [fltL, hasB]
  | k + 1 => by
    unfold fltL
    rw [hasB, Bool.or_eq_true, decide_eq_true_eq]
    split
    · rename_i h
      rw [List.mem_append, List.mem_singleton, fltL_mem k]
      constructor
      · rintro (⟨h1, h2⟩ | h1)
        · exact ⟨h1, .inl h2⟩
        · exact ⟨h1 ▸ h, .inr h1.symm⟩
      · rintro ⟨h1, h2 | h2⟩
        · exact .inl ⟨h1, h2⟩
        · exact .inr h2.symm
    · rename_i h
      rw [fltL_mem k]
      constructor
      · rintro ⟨h1, h2⟩; exact ⟨h1, .inl h2⟩
      · rintro ⟨h1, h2 | h2⟩
        · exact ⟨h1, h2⟩
        · subst h2; exact absurd h1 h
/-- the cells of a list of numbers -/
def rowL (xs : List Int) : List Value := xs.map fun x => .int .i64 x
theorem rowL_snoc (xs : List Int) (x : Int) : rowL xs ++ [.int .i64 x] = rowL (xs ++ [x]) := by simp [rowL]
theorem rowL_at (xs : List Int) (j : Nat) (h : j < xs.length * 1) : (rowL xs)[j]? = some (.int .i64 (xs.getD j 0)) := by
  have h' : j < xs.length := by omega
  simp [rowL, List.getD, h']
theorem info3 : (Try.prog.info? 3).map (fun i => (i.zero, i.size, i.bytes)) = some (some (.int .i64 0), 1, 8) := by kernel_rfl
theorem one_new (w : World) (x : Value) (t : TypeId) : ∀ j u, [x][j]? = some u → (w.alloc (.cells #[x] t)).cell? ((⟨w.heap.size, 0, none⟩ : Addr).add j) = some u := by
  intro j u hj
  match j, hj with
  | 0, hj => simp at hj; subst hj; simp [Addr.add]
theorem one_one (a : Int) : ∀ u ∈ [Value.int .i64 a], u.oneCell' = true := by
  intro u hu
  simp at hu
  subst hu; rfl
theorem own_empty {W : World} {g base : Nat} (hg : Blk W g 3 #[]) (hb : base ≤ g) : W.ownsRow base 3 1 (.slice (some ⟨g, 0, none⟩) 0 0) 0 [] :=
  ⟨by simp, .inr ⟨g, 0, #[], rfl, hb, hg, Nat.le_refl _, by unfold maxLen; omega, by simp, by simp⟩⟩
/-- what a case's facts lack, as a list -/
def misP (S : Nat → Int) (x : Int) (G : Nat → Int) (gn : Nat) (y : Int) : Bool := !decide (S y.toNat = x) && !hasB G y gn

set_option maxRecDepth 100000 in
set_option maxHeartbeats 4000000 in
theorem Missing_38 (SA CA GA QA A : Option Addr) (sn sc n cc gn gc qn qc m c B : Nat) (S G l : Nat → Int) (n1 h1 x : Int) (w : World) (hg : gn ≤ 1000) (hm : m ≤ 1000) (hB : B ≤ w.heap.size)
    (hS : Rd w B SA sn (fun j => .int .i64 (S j))) (hG : Rd w B GA gn (fun j => .int .i64 (G j))) (hl : Rd w B A m (fun j => .int .i64 (l j))) (hin : ∀ k, k < m → 0 ≤ l k ∧ l k < sn) :
    Calls Try.prog 38 #[.agg #[.slice SA sn sc, .slice CA n cc], .agg #[.int .i64 n1, .int .i64 h1, .int .i64 x, .slice GA gn gc, .slice QA qn qc], .slice A m c] w fun e w' =>
      (∃ A' k' c', e = .returned (.slice A' k' c') ∧ k' = (fltL (misP S x G gn) l m).length ∧ Rd w' w'.heap.size A' k' (fun j => .int .i64 ((fltL (misP S x G gn) l m).getD j 0))) ∧ Below w.heap.size w w' := by
  have HS := Lib.hid hS
  have HG := Lib.hid hG
  have HL := Lib.hid hl
  have HIN := Lib.hid hin
  clear hS hG hl hin
  obtain ⟨i0, hi, hi0, hi1, hi2⟩ := info_parts info3
  have hm' : (m : Int) ≤ 1000 := by omega
  obtain ⟨w0, hw0⟩ : ∃ zz, zz = ((w.alloc (.cells #[.slice SA sn sc, .slice CA n cc] 25)).alloc (.cells #[.int .i64 n1, .int .i64 h1, .int .i64 x, .slice GA gn gc, .slice QA qn qc] 44)).alloc (.cells #[] 3) := ⟨_, rfl⟩
  have HK0 : Hid (Blk w0 w.heap.size 25 #[.slice SA sn sc, .slice CA n cc]) := Lib.hid (hw0 ▸ ((Blk.new _ _ _).alloc _).alloc _)
  have HC0 : Hid (Blk w0 (w.heap.size + 1) 44 #[.int .i64 n1, .int .i64 h1, .int .i64 x, .slice GA gn gc, .slice QA qn qc]) := Lib.hid (hw0 ▸ (Blk.new' (by simp)).alloc _)
  have HE0 : Hid (Blk w0 (w.heap.size + 1 + 1) 3 #[]) := Lib.hid (hw0 ▸ Blk.new' (by simp))
  have HB0 : Hid (Below w.heap.size w w0) := Lib.hid (by rw [hw0]; (repeat (first | exact Below.refl _ _ | exact below_alloc _ _ | refine Below.alloc ?_ (by simp; omega) _ | refine Below.alloc ?_ (by simp) _)))
  have HW := Lib.hid hw0
  clear hw0
  have hs0 := HE0.out.lt
  go_enter Try.func38, Try.ntmps38
  go_upto_region 2 with fail
  rw [← HW.out]
  go_wp2_with fail
  go_loopw [7, 8] (fun v i wr => ∃ (k : Nat), k ≤ m ∧ i = .int .i64 k ∧ wr.ownsRow (w.heap.size + 1 + 1) 3 1 v (fltL (misP S x G gn) l k).length (rowL (fltL (misP S x G gn) l k)) ∧ Below (w.heap.size + 1 + 1) w0 wr) (fun _ i _ => m - (intOf i).toNat)
  case atStart => exact ⟨0, Nat.zero_le _, rfl, own_empty HE0.out (Nat.le_refl _), Below.refl _ _⟩
  case round =>
    obtain ⟨k, hk, rfl, hO, hb⟩ := hrel
    obtain ⟨A1, c1, hv⟩ := own_form hO
    subst hv
    have HO := Lib.hid hO
    have HB1 := Lib.hid (HB0.out.trans (hb.mono (by omega)))
    have HBL := Lib.hid hb
    have HK1 := Lib.hid (HK0.out.below hb (by omega))
    have HC1 := Lib.hid (HC0.out.below hb (by omega))
    have hz1 := hb.size
    have hlen := fltL_len (misP S x G gn) l k
    clear hO hb
    by_cases hlt : k < m
    · have hlt' : (k : Int) < m := by omega
      obtain ⟨l0, l1⟩ := HIN.out k hlt
      have HH : Hid (∀ q, Calls Try.prog 40 #[.slice GA gn gc, .int .i64 (l k)] (wr.drewN q) fun e w' => e = .returned (.bool (hasB G (l k) gn)) ∧ wr.drewN q = w') := Lib.hid fun q => has_40 GA gn gc B G (l k) _ (by omega) ((HG.out.below (HB1.out.mono hB)).drewN q)
      obtain ⟨b, o, rfl, hbb, cs⟩ := (HL.out.below (HB1.out.mono hB)) (by omega)
      have ck := cs k hlt
      clear cs
      have cg3 : wr.cell? ⟨w.heap.size + 1, 3, none⟩ = some (.slice GA gn gc) := HC1.out.cell 3
      go_upto_region 5 with fail
      go_quiet ((go_at_call 40; exact quiet_l (HH.out _)))
      have HO2 := Lib.hid (show (wr.drewN nq).ownsRow (w.heap.size + 1 + 1) 3 1 (.slice A1 (fltL (misP S x G gn) l k).length c1) (fltL (misP S x G gn) l k).length (rowL (fltL (misP S x G gn) l k)) from HO.out)
      have HB2 := Lib.hid (below_quiet HB1.out ⟨nq, rfl⟩)
      have HBL2 := Lib.hid (below_quiet HBL.out ⟨nq, rfl⟩)
      have HK2 := Lib.hid (HK1.out.drewN nq)
      have HC2 := Lib.hid (HC1.out.drewN nq)
      clear HH HO HB1 HBL HK1 HC1 cg3 ck
      generalize wr.drewN nq = w2 at HO2 HB2 HBL2 HK2 HC2 ⊢
      obtain ⟨b9, o9, e9, _, cs⟩ := (HL.out.below (HB2.out.mono hB)) (by omega)
      cases e9
      have ck := cs k hlt
      obtain ⟨b2, o2, rfl, _, cs2⟩ := (HS.out.below (HB2.out.mono hB)) (by omega)
      have cd : w2.cell? ⟨b2, o2 + (l k).toNat, none⟩ = some (.int .i64 (S (l k).toNat)) := cs2 (l k).toNat (by omega)
      clear cs cs2
      have cb : w2.cell? ⟨w.heap.size, 0, none⟩ = some (.slice (some ⟨b2, o2, none⟩) sn sc) := HK2.out.cell 0
      have cg2 : w2.cell? ⟨w.heap.size + 1, 2, none⟩ = some (.int .i64 x) := HC2.out.cell 2
      obtain ⟨y, hy⟩ : ∃ y, y = S (l k).toNat := ⟨_, rfl⟩
      rw [← hy] at cd
      have HP : Hid (misP S x G gn (l k) = (!decide (y = x) && !hasB G (l k) gn)) := Lib.hid (by rw [misP, hy])
      clear hy
      generalize hasB G (l k) gn = hh at HP ⊢
      have HQ : Hid (∀ q, Rd (w2.drewN q) B (some ⟨b, o, none⟩) m (fun j => .int .i64 (l j))) := Lib.hid fun q => Rd.drewN (HL.out.below (HB2.out.mono hB)) q
      have skip : misP S x G gn (l k) = false → fltL (misP S x G gn) l (k + 1) = fltL (misP S x G gn) l k := fun h => by rw [fltL, if_neg (by rw [h]; simp)]
      have take : misP S x G gn (l k) = true → fltL (misP S x G gn) l (k + 1) = fltL (misP S x G gn) l k ++ [l k] := fun h => by rw [fltL, if_pos h]
      have SK := Lib.hid skip
      have TK := Lib.hid take
      clear skip take
      go_upto_region 6 with fail
      by_cases hyx : y = x
      · have HS1 := Lib.hid (SK.out (by rw [HP.out]; simp [hyx]))
        subst hyx
        go_quiet (fail)
        go_wp2_with fail
        go_roundw
        case rel => exact ⟨k + 1, by omega, by go_num, by rw [HS1.out]; exact HO2.out, below_quiet HBL2.out ⟨_, rfl⟩⟩
        case measure => simp [intOf]; omega
      have hyx' : (y != x) = true := by simpa using hyx
      cases hh with
      | true =>
        have HS1 := Lib.hid (SK.out (by rw [HP.out]; simp))
        clear hyx
        go_quiet (fail)
        go_wp2_with fail
        go_roundw
        case rel => exact ⟨k + 1, by omega, by go_num, by rw [HS1.out]; exact HO2.out, below_quiet HBL2.out ⟨_, rfl⟩⟩
        case measure => simp [intOf]; omega
      | false =>
        have HS1 := Lib.hid (TK.out (by rw [HP.out]; simp [hyx]))
        clear hyx
        go_quiet (fail)
        have HO3 := Lib.hid (show (w2.drewN nq).ownsRow (w.heap.size + 1 + 1) 3 1 (.slice A1 (fltL (misP S x G gn) l k).length c1) (fltL (misP S x G gn) l k).length (rowL (fltL (misP S x G gn) l k)) from HO2.out)
        have HBL3 := Lib.hid (below_quiet HBL2.out ⟨nq, rfl⟩)
        have ck3 : (w2.drewN nq).cell? ⟨b, o + k, none⟩ = some (.int .i64 (l k)) := ck
        clear HO2 HB2 HBL2 HK2 HC2 ck cd cb cg2
        generalize w2.drewN nq = w3 at HO3 HBL3 ck3 ⊢
        have hz3 := HBL3.out.size
        generalize hK : (fltL (misP S x G gn) l k).length = K at HO3 hlen ⊢
        go_wp2_with (at_builtin; refine wpList_append_own_at _ rfl _ _ 22 rfl (w.heap.size + 1 + 1) 3 i0 (.int .i64 0) 1 8 Try.underlying22 hi hi0 hi1 hi2 rfl (by decide) (.slice A1 K c1) K (rowL (fltL (misP S x G gn) l k)) rfl (HO3.out.alloc _) ⟨_, 0, none⟩ 1 1 [.int .i64 (l k)] rfl rfl (one_new _ _ _) (one_one _) (by unfold maxLen; omega) (by omega) (by simp; omega) ?_; intro vv w8 hown8 hgrow8 _ _; obtain ⟨A3, c3, hvv⟩ := own_form hown8; subst hvv)
        go_roundw
        case rel => exact ⟨k + 1, by omega, by go_num, by rw [HS1.out, List.length_append, hK, ← rowL_snoc]; exact hown8, (HBL3.out.alloc (by omega) _).grown hgrow8 (by simp; omega) (fun q e => (HO3.out.lt q e).1)⟩
        case measure => simp [intOf]; omega
    · obtain rfl : k = m := by omega
      go_wp2_with fail
      go_ret
      exact ⟨⟨A1, _, c1, rfl, rfl, by have := Rd.of_own HO.out (fun j hj => rowL_at _ j hj); rwa [Nat.mul_one] at this⟩, HB1.out⟩
end Go.Proofs.Ytbojjhdcmogjdaa
