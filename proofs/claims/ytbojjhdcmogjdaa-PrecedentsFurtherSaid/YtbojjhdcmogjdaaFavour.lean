/- Contract of Favour. -/
import Derived.Test.YtbojjhdcmogjdaaMissing
namespace Go.Proofs.Ytbojjhdcmogjdaa
open Go.RowKit

/-- does a factor favour a side? -/
def favP (S : Nat → Int) (x : Int) (y : Int) : Bool := decide (S y.toNat = x)

set_option maxRecDepth 100000 in
set_option maxHeartbeats 4000000 in
theorem Favour_23 (SA CA A : Option Addr) (sn sc n cc m c B : Nat) (S l : Nat → Int) (x : Int) (w : World) (hm : m ≤ 1000) (hB : B ≤ w.heap.size)
    (hS : Rd w B SA sn (fun j => .int .i64 (S j))) (hl : Rd w B A m (fun j => .int .i64 (l j))) (hin : ∀ k, k < m → 0 ≤ l k ∧ l k < sn) :
    Calls Try.prog 23 #[.agg #[.slice SA sn sc, .slice CA n cc], .slice A m c, .int .i64 x] w fun e w' =>
      (∃ A' k' c', e = .returned (.slice A' k' c') ∧ k' = (fltL (favP S x) l m).length ∧ Rd w' w'.heap.size A' k' (fun j => .int .i64 ((fltL (favP S x) l m).getD j 0))) ∧ Below w.heap.size w w' := by
  have HS := Lib.hid hS
  have HL := Lib.hid hl
  have HIN := Lib.hid hin
  clear hS hl hin
  obtain ⟨i0, hi, hi0, hi1, hi2⟩ := info_parts info3
  have hm' : (m : Int) ≤ 1000 := by omega
  obtain ⟨w0, hw0⟩ : ∃ zz, zz = (w.alloc (.cells #[.slice SA sn sc, .slice CA n cc] 25)).alloc (.cells #[] 3) := ⟨_, rfl⟩
  have HK0 : Hid (Blk w0 w.heap.size 25 #[.slice SA sn sc, .slice CA n cc]) := Lib.hid (hw0 ▸ (Blk.new _ _ _).alloc _)
  have HE0 : Hid (Blk w0 (w.heap.size + 1) 3 #[]) := Lib.hid (hw0 ▸ Blk.new' (by simp))
  have HB0 : Hid (Below w.heap.size w w0) := Lib.hid (by rw [hw0]; (repeat (first | exact Below.refl _ _ | exact below_alloc _ _ | refine Below.alloc ?_ (by simp; omega) _ | refine Below.alloc ?_ (by simp) _)))
  have HW := Lib.hid hw0
  clear hw0
  have hs0 := HE0.out.lt
  go_enter Try.func23, Try.ntmps23
  go_upto_region 2 with fail
  rw [← HW.out]
  go_wp2_with fail
  go_loopw [7, 8] (fun v i wr => ∃ (k : Nat), k ≤ m ∧ i = .int .i64 k ∧ wr.ownsRow (w.heap.size + 1) 3 1 v (fltL (favP S x) l k).length (rowL (fltL (favP S x) l k)) ∧ Below (w.heap.size + 1) w0 wr) (fun _ i _ => m - (intOf i).toNat)
  case atStart => exact ⟨0, Nat.zero_le _, rfl, own_empty HE0.out (Nat.le_refl _), Below.refl _ _⟩
  case round =>
    obtain ⟨k, hk, rfl, hO, hb⟩ := hrel
    obtain ⟨A1, c1, hv⟩ := own_form hO
    subst hv
    have HO := Lib.hid hO
    have HB1 := Lib.hid (HB0.out.trans (hb.mono (by omega)))
    have HBL := Lib.hid hb
    have HK1 := Lib.hid (HK0.out.below hb (by omega))
    have hz1 := hb.size
    have hlen := fltL_len (favP S x) l k
    clear hO hb
    by_cases hlt : k < m
    · have hlt' : (k : Int) < m := by omega
      obtain ⟨l0, l1⟩ := HIN.out k hlt
      obtain ⟨b, o, rfl, hbb, cs⟩ := (HL.out.below (HB1.out.mono hB)) (by omega)
      have ck := cs k hlt
      obtain ⟨b2, o2, rfl, _, cs2⟩ := (HS.out.below (HB1.out.mono hB)) (by omega)
      have cd : wr.cell? ⟨b2, o2 + (l k).toNat, none⟩ = some (.int .i64 (S (l k).toNat)) := cs2 (l k).toNat (by omega)
      clear cs cs2
      have cb : wr.cell? ⟨w.heap.size, 0, none⟩ = some (.slice (some ⟨b2, o2, none⟩) sn sc) := HK1.out.cell 0
      obtain ⟨y, hy⟩ : ∃ y, y = S (l k).toNat := ⟨_, rfl⟩
      rw [← hy] at cd
      have HP : Hid (favP S x (l k) = decide (y = x)) := Lib.hid (by rw [favP, hy])
      clear hy
      have SK : Hid (favP S x (l k) = false → fltL (favP S x) l (k + 1) = fltL (favP S x) l k) := Lib.hid fun h => by rw [fltL, if_neg (by rw [h]; simp)]
      have TK : Hid (favP S x (l k) = true → fltL (favP S x) l (k + 1) = fltL (favP S x) l k ++ [l k]) := Lib.hid fun h => by rw [fltL, if_pos h]
      go_upto_region 5 with fail
      by_cases hyx : y = x
      · have HS1 := Lib.hid (TK.out (by rw [HP.out]; simp [hyx]))
        subst hyx
        go_quiet (fail)
        have HO3 := Lib.hid (show (wr.drewN nq).ownsRow (w.heap.size + 1) 3 1 (.slice A1 (fltL (favP S y) l k).length c1) (fltL (favP S y) l k).length (rowL (fltL (favP S y) l k)) from HO.out)
        have HBL3 := Lib.hid (below_quiet HBL.out ⟨nq, rfl⟩)
        have ck3 : (wr.drewN nq).cell? ⟨b, o + k, none⟩ = some (.int .i64 (l k)) := ck
        clear HO HB1 HBL HK1 ck cd cb
        generalize wr.drewN nq = w3 at HO3 HBL3 ck3 ⊢
        have hz3 := HBL3.out.size
        generalize hK : (fltL (favP S y) l k).length = K at HO3 hlen ⊢
        go_wp2_with (at_builtin; refine wpList_append_own_at _ rfl _ _ 22 rfl (w.heap.size + 1) 3 i0 (.int .i64 0) 1 8 Try.underlying22 hi hi0 hi1 hi2 rfl (by decide) (.slice A1 K c1) K (rowL (fltL (favP S y) l k)) rfl (HO3.out.alloc _) ⟨_, 0, none⟩ 1 1 [.int .i64 (l k)] rfl rfl (one_new _ _ _) (one_one _) (by unfold maxLen; omega) (by omega) (by simp; omega) ?_; intro vv w8 hown8 hgrow8 _ _; obtain ⟨A3, c3, hvv⟩ := own_form hown8; subst hvv)
        go_roundw
        case rel => exact ⟨k + 1, by omega, by go_num, by rw [HS1.out, List.length_append, hK, ← rowL_snoc]; exact hown8, (HBL3.out.alloc (by omega) _).grown hgrow8 (by simp; omega) (fun q e => (HO3.out.lt q e).1)⟩
        case measure => simp [intOf]; omega
      · have hyx' : (y == x) = false := by simpa using hyx
        have HS1 := Lib.hid (SK.out (by rw [HP.out]; simp [hyx]))
        clear hyx
        go_quiet (fail)
        go_wp2_with fail
        go_roundw
        case rel => exact ⟨k + 1, by omega, by go_num, by rw [HS1.out]; exact HO.out, below_quiet HBL.out ⟨_, rfl⟩⟩
        case measure => simp [intOf]; omega
    · obtain rfl : k = m := by omega
      go_wp2_with fail
      go_ret
      exact ⟨⟨A1, _, c1, rfl, rfl, by have := Rd.of_own HO.out (fun j hj => rowL_at _ j hj); rwa [Nat.mul_one] at this⟩, HB1.out⟩
end Go.Proofs.Ytbojjhdcmogjdaa
