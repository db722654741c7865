/- Contract of read. -/
import Derived.Test.YtbojjhdcmogjdaaRefCheck
import Derived.Test.YtbojjhdcmogjdaaGrow
namespace Go.Proofs.Ytbojjhdcmogjdaa
open Go.RowKit

theorem info59 : (Try.prog.info? 59).map (fun i => (i.zero, i.size, i.bytes)) = some (some (.agg #[.int .i64 0, .int .u64 0, .int .u64 0]), 3, 24) := by kernel_rfl
/-- the cells of the cases that were read: three each -/
def dcc (wi : Nat → Int) (fn : Nat → Nat) (F : Nat → Nat → Int) (rn : Nat → Nat) (R : Nat → Nat → Int) (j : Nat) : Value :=
  if j % 3 = 0 then .int .i64 (wi (j / 3)) else if j % 3 = 1 then .int .u64 (mask (F (j / 3)) (fn (j / 3))) else .int .u64 (mask (R (j / 3)) (rn (j / 3)))
section
variable (wi : Nat → Int) (fn : Nat → Nat) (F : Nat → Nat → Int) (rn : Nat → Nat) (R : Nat → Nat → Int) (j : Nat)
theorem dcc_0 : dcc wi fn F rn R (j * 3) = .int .i64 (wi j) := by
  unfold dcc; rw [if_pos (by omega), show j * 3 / 3 = j by omega]
theorem dcc_1 : dcc wi fn F rn R (j * 3 + 1) = .int .u64 (mask (F j) (fn j)) := by
  unfold dcc; rw [if_neg (by omega), if_pos (by omega), show (j * 3 + 1) / 3 = j by omega]
theorem dcc_2 : dcc wi fn F rn R (j * 3 + 2) = .int .u64 (mask (R j) (rn j)) := by
  unfold dcc; rw [if_neg (by omega), if_neg (by omega), show (j * 3 + 2) / 3 = j by omega]
/-- the row of the first cases -/
def rowD (n : Nat) : List Value := (List.range (n * 3)).map (dcc wi fn F rn R)
theorem rowD_succ : rowD wi fn F rn R j ++ [.int .i64 (wi j), .int .u64 (mask (F j) (fn j)), .int .u64 (mask (R j) (rn j))] = rowD wi fn F rn R (j + 1) := by
  unfold rowD
  rw [Nat.add_mul, Nat.one_mul, List.range_succ, List.range_succ, List.range_succ]
  simp only [List.map_append, List.map_cons, List.map_nil, List.append_assoc, List.cons_append, List.nil_append]
  rw [dcc_0, dcc_1, dcc_2]
theorem rowD_at (n i : Nat) (h : i < n * 3) : (rowD wi fn F rn R n)[i]? = some (dcc wi fn F rn R i) := by simp [rowD, h]
end
theorem three_new (w : World) (x y z : Value) (t : TypeId) : ∀ j u, [x, y, z][j]? = some u → (w.alloc (.cells #[x, y, z] t)).cell? ((⟨w.heap.size, 0, none⟩ : Addr).add j) = some u := by
  intro j u hj
  match j, hj with
  | 0, hj => simp at hj; subst hj; simp [Addr.add]
  | 1, hj => simp at hj; subst hj; simp [Addr.add]
  | 2, hj => simp at hj; subst hj; simp [Addr.add]
theorem one_three (a b c : Int) : ∀ u ∈ [Value.int .i64 a, Value.int .u64 b, Value.int .u64 c], u.oneCell' = true := by
  intro u hu
  simp at hu
  rcases hu with rfl | rfl | rfl <;> rfl

/-- what read hands back -/
def ReadR (L : Nat) (E : Int) (f0 f1 n : Nat) (D : Nat → Value) (e : Ending) (w' : World) : Prop :=
  ∃ (a b : Nat) (A : Option Addr) (m c : Nat), e = .returned (.tuple #[.agg #[.int .u64 a, .int .u64 b, .slice A m c], .int .i64 E]) ∧ (E = 0 → a = f0 ∧ b = f1 ∧ m = n ∧ Rd w' w'.heap.size A (n * 3) D ∧ ∀ q, (Value.slice A m c).ownBlock = some q → L ≤ q)
theorem readR_bad {L : Nat} {E : Int} {f0 f1 n : Nat} {D : Nat → Value} {w' : World} {a b m c : Nat} {A : Option Addr} (hE : E ≠ 0) : ReadR L E f0 f1 n D (.returned (.tuple #[.agg #[.int .u64 a, .int .u64 b, .slice A m c], .int .i64 E])) w' :=
  ⟨a, b, A, m, c, rfl, fun h => absurd h hE⟩
/-- the number and hour that came last -/
def lastN (no : Nat → Int) (j : Nat) : Int := if j = 0 then -1 else no (j - 1)
def lastH (hr : Nat → Int) (j : Nat) : Int := if j = 0 then 0 else hr (j - 1)
theorem fav_succ {S : Nat → Int} {x : Int} {k : Nat} (h : S k = x) : fav S x (k + 1) = fav S x k ||| 2 ^ k := by rw [fav, if_pos h]
theorem fav_same {S : Nat → Int} {x : Int} {k : Nat} (h : S k ≠ x) : fav S x (k + 1) = fav S x k := by rw [fav, if_neg h]

theorem lastN_succ (no : Nat → Int) (j : Nat) : lastN no (j + 1) = no j := by simp [lastN]
theorem lastH_succ (hr : Nat → Int) (j : Nat) : lastH hr (j + 1) = hr j := by simp [lastH]
section
variable {S : Nat → Int} {sn : Nat} {no hr wi : Nat → Int} {fn : Nat → Nat} {F : Nat → Nat → Int} {rn : Nat → Nat} {R : Nat → Nat → Int} {j : Nat}
theorem cas_no (h : no j ≤ lastN no j) : casB S sn no hr wi fn F rn R j = false := by
  rw [Bool.eq_false_iff]
  intro h1
  obtain ⟨⟨h2, _⟩, h3, _⟩ := casB_facts h1
  unfold lastN at h
  split at h
  · omega
  · have := h3.resolve_left (by assumption); omega
theorem cas_hr (h : hr j < lastH hr j) : casB S sn no hr wi fn F rn R j = false := by
  rw [Bool.eq_false_iff]
  intro h1
  obtain ⟨⟨_, h2, _⟩, h3, _⟩ := casB_facts h1
  unfold lastH at h
  split at h
  · omega
  · have := h3.resolve_left (by assumption); omega
theorem cas_of (h1 : inB 1048576 (no j) = true) (h2 : inB 4096 (hr j) = true) (h3 : inB 1 (wi j) = true) (h4 : ¬ no j ≤ lastN no j) (h5 : ¬ hr j < lastH hr j) (h6 : okS sn (F j) (fn j) = true) (h7 : reaB S sn (F j) (fn j) (R j) (rn j) (wi j) = true) : casB S sn no hr wi fn F rn R j = true := by
  have h8 : ordB no hr j = true := by
    unfold ordB lastN lastH at *
    by_cases hj : j = 0
    · simp [hj]
    · rw [if_neg hj] at h4 h5
      simp [hj]
      omega
  simp [casB, numB, h1, h2, h3, h6, h7, h8]
end

set_option maxRecDepth 100000 in
set_option maxHeartbeats 8000000 in
theorem read_25 {SA CA : Option Addr} {sn sc n cc : Nat} {S no hr wi : Nat → Int} {FA RA : Nat → Option Addr} {fn fc rn rc : Nat → Nat} {F R : Nat → Nat → Int} (B : Nat) (w : World) (hs : SmK sn n fn rn) (hB : B ≤ w.heap.size) (hr0 : RdK w B SA sn S CA n no hr wi FA fn fc F RA rn rc R) :
    Calls Try.prog 25 #[(.agg #[.slice SA sn sc, .slice CA n cc])] w fun e w' => ReadR w.heap.size (chkE S sn n no hr wi fn F rn R) (fav S 0 sn) (fav S 1 sn) n (dcc wi fn F rn R) e w' ∧ Below w.heap.size w w' := by
  have HR := Lib.hid hr0
  clear hr0
  obtain ⟨hs1, hs2, hs3⟩ := hs
  have HSM := Lib.hid hs3
  clear hs3
  have hs1' : (sn : Int) ≤ 100 := by omega
  have hs2' : (n : Int) ≤ 100 := by omega
  obtain ⟨f0, hf0⟩ : ∃ f0, f0 = fav S 0 sn := ⟨_, rfl⟩
  obtain ⟨f1, hf1⟩ : ∃ f1, f1 = fav S 1 sn := ⟨_, rfl⟩
  obtain ⟨E, hE⟩ : ∃ E, E = (chkE S sn n no hr wi fn F rn R) := ⟨_, rfl⟩
  have HF0 := Lib.hid hf0
  have HF1 := Lib.hid hf1
  have HEE := Lib.hid hE
  rw [← hf0, ← hf1, ← hE]
  clear hf0 hf1 hE
  go_enter Try.func25, Try.ntmps25
  go_upto_region 1 with fail
  obtain ⟨w0, hw0⟩ : ∃ zz, zz = (w.alloc (.cells #[.slice SA sn sc, .slice CA n cc] 25)).alloc (.cells #[.int .u64 0, .int .u64 0, .slice none 0 0] 52) := ⟨_, rfl⟩
  have HK0 : Hid (Blk w0 w.heap.size 25 #[.slice SA sn sc, .slice CA n cc]) := Lib.hid (hw0 ▸ (Blk.new _ _ _).alloc _)
  have HC0 : Hid (Blk w0 (w.heap.size + 1) 52 #[.int .u64 0, .int .u64 0, .slice none 0 0]) := Lib.hid (hw0 ▸ Blk.new' (by simp))
  have HB0 : Hid (Below w.heap.size w w0) := Lib.hid (by rw [hw0]; (repeat (first | exact Below.refl _ _ | exact below_alloc _ _ | refine Below.alloc ?_ (by simp; omega) _ | refine Below.alloc ?_ (by simp) _)))
  rw [← hw0]
  clear hw0
  have hs0 := HC0.out.lt
  have cb0 : w0.cell? ⟨w.heap.size, 0, none⟩ = some (.slice SA sn sc) := HK0.out.cell 0
  have cb1 : w0.cell? ⟨w.heap.size, 1, none⟩ = some (.slice CA n cc) := HK0.out.cell 1
  by_cases hz1 : 32 < sn
  · have HE : Hid (E = 2) := Lib.hid (by rw [HEE.out, chkE, if_pos (.inl hz1)])
    have hz1' : (32 : Int) < sn := by omega
    have cc0 : w0.cell? ⟨w.heap.size + 1, 0, none⟩ = some (.int .u64 (0 : Nat)) := HC0.out.cell 0
    have cc1 : w0.cell? ⟨w.heap.size + 1, 1, none⟩ = some (.int .u64 (0 : Nat)) := HC0.out.cell 1
    have cc2 : w0.cell? ⟨w.heap.size + 1, 2, none⟩ = some (.slice none 0 0) := HC0.out.cell 2
    have ff0 := HC0.out.frozen 0
    have ff1 := HC0.out.frozen 1
    have ff2 := HC0.out.frozen 2
    go_wp2_with fail
    have hg := ((HC0.out.set_ 0 (.int .u64 (0 : Nat))).set_ 1 (.int .u64 (0 : Nat))).set_ 2 (.slice none 0 0)
    refine bodyPost_ret (results_row2 rfl _ _ _ 52 _ (0, 0) _ rfl hg Try.underlying52 rfl (by kernel_rfl)) rfl ?_
    exact ⟨HE.out.symm ▸ readR_bad (by decide), ((HB0.out.setCell (p := ⟨w.heap.size + 1, 0, none⟩) (by simp) _).setCell (p := ⟨w.heap.size + 1, 1, none⟩) (by simp) _).setCell (p := ⟨w.heap.size + 1, 2, none⟩) (by simp) _⟩
  have hz1' : (sn : Int) ≤ 32 := by omega
  by_cases hz2 : 64 < n
  · have HE : Hid (E = 2) := Lib.hid (by rw [HEE.out, chkE, if_pos (.inr hz2)])
    have hz2' : (64 : Int) < n := by omega
    have cc0 : w0.cell? ⟨w.heap.size + 1, 0, none⟩ = some (.int .u64 (0 : Nat)) := HC0.out.cell 0
    have cc1 : w0.cell? ⟨w.heap.size + 1, 1, none⟩ = some (.int .u64 (0 : Nat)) := HC0.out.cell 1
    have cc2 : w0.cell? ⟨w.heap.size + 1, 2, none⟩ = some (.slice none 0 0) := HC0.out.cell 2
    have ff0 := HC0.out.frozen 0
    have ff1 := HC0.out.frozen 1
    have ff2 := HC0.out.frozen 2
    go_wp2_with fail
    have hg := ((HC0.out.set_ 0 (.int .u64 (0 : Nat))).set_ 1 (.int .u64 (0 : Nat))).set_ 2 (.slice none 0 0)
    refine bodyPost_ret (results_row2 rfl _ _ _ 52 _ (0, 0) _ rfl hg Try.underlying52 rfl (by kernel_rfl)) rfl ?_
    exact ⟨HE.out.symm ▸ readR_bad (by decide), ((HB0.out.setCell (p := ⟨w.heap.size + 1, 0, none⟩) (by simp) _).setCell (p := ⟨w.heap.size + 1, 1, none⟩) (by simp) _).setCell (p := ⟨w.heap.size + 1, 2, none⟩) (by simp) _⟩
  have hz2' : (n : Int) ≤ 64 := by omega
  have HZ : Hid (¬ (32 < sn ∨ 64 < n)) := Lib.hid (by omega)
  clear hz1 hz2
  go_wp2_with fail
  clear cb0 cb1
  go_loopw [27] (fun i wx => ∃ k : Nat, k ≤ sn ∧ i = .int .i64 k ∧ Hid (sidB S k = true) ∧ Blk wx (w.heap.size + 1) 52 #[.int .u64 (fav S 0 k), .int .u64 (fav S 1 k), .slice none 0 0] ∧ Below (w.heap.size + 1) w0 wx) (fun i _ => sn - (intOf i).toNat)
  case atStart => exact ⟨0, Nat.zero_le _, rfl, Lib.hid rfl, HC0.out, Below.refl _ _⟩
  case round =>
    obtain ⟨k, hk, rfl, HK, hC, hb⟩ := hrel
    have HC := Lib.hid hC
    have HBL := Lib.hid hb
    have HB1 := Lib.hid (HB0.out.trans (hb.mono (by omega)))
    have HK1 := Lib.hid (HK0.out.below hb (by omega))
    clear hC hb
    have hs1 := HC.out.lt
    by_cases hlt : k < sn
    · have hlt' : (k : Int) < sn := by omega
      obtain ⟨b, o, e, _, ck⟩ := (HR.out.below (HB1.out.mono hB)).side hlt
      subst e
      obtain ⟨s, hsk⟩ : ∃ s, s = S k := ⟨_, rfl⟩
      rw [← hsk] at ck
      have HSK := Lib.hid hsk
      clear hsk
      obtain ⟨g0, hg0⟩ : ∃ g0, g0 = fav S 0 k := ⟨_, rfl⟩
      obtain ⟨g1, hg1⟩ : ∃ g1, g1 = fav S 1 k := ⟨_, rfl⟩
      have hm0 : fav S 0 k < 2 ^ 32 := Nat.lt_of_lt_of_le (fav_lt k) (Nat.pow_le_pow_right (by omega) (by omega))
      have hm1 : fav S 1 k < 2 ^ 32 := Nat.lt_of_lt_of_le (fav_lt k) (Nat.pow_le_pow_right (by omega) (by omega))
      rw [← hg0, ← hg1] at HC
      rw [← hg0] at hm0
      rw [← hg1] at hm1
      have HG0 := Lib.hid hg0
      have HG1 := Lib.hid hg1
      clear hg0 hg1
      go_wp2_with fail
      refine (within_41 _ _ _).mono ?_
      rintro e w' ⟨rfl, rfl⟩
      cases h1 : inB 1 s
      · have HE : Hid (E = 520) := Lib.hid (by rw [HEE.out]; exact chk_side HZ.out hlt (by rw [← HSK.out]; exact h1))
        clear h1
        have cc0 : wr.cell? ⟨w.heap.size + 1, 0, none⟩ = some (.int .u64 (g0 : Nat)) := HC.out.cell 0
        have cc1 : wr.cell? ⟨w.heap.size + 1, 1, none⟩ = some (.int .u64 (g1 : Nat)) := HC.out.cell 1
        have cc2 : wr.cell? ⟨w.heap.size + 1, 2, none⟩ = some (.slice none 0 0) := HC.out.cell 2
        have ff0 := HC.out.frozen 0
        have ff1 := HC.out.frozen 1
        have ff2 := HC.out.frozen 2
        go_wp2_with fail
        have hg := ((HC.out.set_ 0 (.int .u64 (g0 : Nat))).set_ 1 (.int .u64 (g1 : Nat))).set_ 2 (.slice none 0 0)
        refine bodyPost_ret (results_row2 rfl _ _ _ 52 _ (0, 0) _ rfl hg Try.underlying52 rfl (by kernel_rfl)) rfl ?_
        exact ⟨HE.out.symm ▸ readR_bad (by decide), ((HB1.out.setCell (p := ⟨w.heap.size + 1, 0, none⟩) (by simp) _).setCell (p := ⟨w.heap.size + 1, 1, none⟩) (by simp) _).setCell (p := ⟨w.heap.size + 1, 2, none⟩) (by simp) _⟩
      · have HV : Hid (sidB S (k + 1) = true) := Lib.hid (by rw [sidB, HK.out, ← HSK.out, h1]; rfl)
        have h2 := inB_iff.1 h1
        clear h1
        have cc0 : wr.cell? ⟨w.heap.size + 1, 0, none⟩ = some (.int .u64 (g0 : Nat)) := HC.out.cell 0
        have cc1 : wr.cell? ⟨w.heap.size + 1, 1, none⟩ = some (.int .u64 (g1 : Nat)) := HC.out.cell 1
        have cc2 : wr.cell? ⟨w.heap.size + 1, 2, none⟩ = some (.slice none 0 0) := HC.out.cell 2
        have ff0 := HC.out.frozen 0
        have ff1 := HC.out.frozen 1
        have ff2 := HC.out.frozen 2
        go_upto_region 8 with fail
        obtain rfl | rfl : s = 0 ∨ s = 1 := by omega
        · have hbt := or_bit _ k hm0 (by omega)
          have hf : Hid (fav S 0 (k + 1) = g0 ||| 2 ^ k) := Lib.hid (by rw [HG0.out]; exact fav_succ HSK.out.symm)
          have hg : Hid (fav S 1 (k + 1) = g1) := Lib.hid (by rw [HG1.out]; exact fav_same (by rw [← HSK.out]; decide))
          clear hm0 hm1
          go_region
          all_goals
            go_wp2_with fail
            go_roundw
            case rel => exact ⟨k + 1, by omega, by go_num, HV, by rw [hf.out, hg.out]; exact (HC.out.set_ 0 _).drewN 1, (HBL.out.setCell (by simp) _).drew⟩
            case measure => simp [intOf]; omega
        · have hbt := or_bit _ k hm1 (by omega)
          have hf : Hid (fav S 1 (k + 1) = g1 ||| 2 ^ k) := Lib.hid (by rw [HG1.out]; exact fav_succ HSK.out.symm)
          have hg : Hid (fav S 0 (k + 1) = g0) := Lib.hid (by rw [HG0.out]; exact fav_same (by rw [← HSK.out]; decide))
          clear hm0 hm1
          go_region
          all_goals
            go_wp2_with fail
            go_roundw
            case rel => exact ⟨k + 1, by omega, by go_num, HV, by rw [hf.out, hg.out]; exact (HC.out.set_ 1 _).drewN 1, (HBL.out.setCell (by simp) _).drew⟩
            case measure => simp [intOf]; omega
    · obtain rfl : k = sn := by omega
      obtain ⟨w5, rfl⟩ : ∃ w5, w5 = wr := ⟨_, rfl⟩
      rw [← HF0.out, ← HF1.out] at HC
      have cb1 : w5.cell? ⟨w.heap.size, 1, none⟩ = some (.slice CA n cc) := HK1.out.cell 1
      go_upto_region 11 with fail
      obtain ⟨w6, hw6⟩ : ∃ zz, zz = w5.alloc (.cells #[.int .i64 (-1), .int .i64 0, .int .i64 0, .slice none 0 0, .slice none 0 0] 44) := ⟨_, rfl⟩
      have HL6 : Hid (Blk w6 w5.heap.size 44 #[.int .i64 (-1), .int .i64 0, .int .i64 0, .slice none 0 0, .slice none 0 0]) := Lib.hid (hw6 ▸ Blk.new _ _ _)
      have hb : Below w5.heap.size w5 w6 := hw6 ▸ below_alloc _ _
      rw [← hw6]
      have HC6 := Lib.hid (HC.out.below hb hs1)
      have HK6 := Lib.hid (HK1.out.below hb (by omega))
      have HB6 := Lib.hid (HB1.out.trans (hb.mono (by omega)))
      clear hw6 hb HB1 HK1 HC HBL cb1
      have hs6 := HL6.out.lt
      have cb1 : w6.cell? ⟨w.heap.size, 1, none⟩ = some (.slice CA n cc) := HK6.out.cell 1
      obtain ⟨i0, hi, hi0, hi1, hi2⟩ := info_parts info59
      go_wp2_with fail
      clear cb1
      go_loopw [50] (fun i wx => ∃ (j : Nat) (A : Option Addr) (c : Nat) (v2 v3 v4 : Value), j ≤ n ∧ i = .int .i64 j ∧ Hid (casN S k no hr wi fn F rn R j = true) ∧ Blk wx (w.heap.size + 1) 52 #[.int .u64 f0, .int .u64 f1, .slice A j c] ∧ Blk wx w5.heap.size 44 #[.int .i64 (lastN no j), .int .i64 (lastH hr j), v2, v3, v4] ∧ wx.ownsRow w6.heap.size 59 3 (.slice A j c) j (rowD wi fn F rn R j) ∧ Below (w.heap.size + 1) w6 wx) (fun i _ => n - (intOf i).toNat)
      case atStart => exact ⟨0, none, 0, _, _, _, Nat.zero_le _, rfl, Lib.hid rfl, HC6.out, HL6.out, World.ownsRow_nil _ _ _ _, Below.refl _ _⟩
      case round =>
        obtain ⟨j, A, c, v2, v3, v4, hj, rfl, HCN, hC, hL, hO, hb⟩ := hrel
        have HC := Lib.hid hC
        have HL := Lib.hid hL
        have HO := Lib.hid hO
        have HBL := Lib.hid hb
        have HB1 := Lib.hid (HB6.out.trans (hb.mono (by omega)))
        have HK1 := Lib.hid (HK6.out.below hb (by omega))
        have hz1 := hb.size
        clear hC hL hO hb
        have hs7 := HL.out.lt
        by_cases hltj : j < n
        · have hltj' : (j : Int) < n := by omega
          obtain ⟨b, o, e, hbb, k0, k1, k2, k3, k4⟩ := (HR.out.below (HB1.out.mono hB)).at_ hltj
          subst e
          go_upto_region 14 with fail
          obtain ⟨wx2, hwx⟩ : ∃ zz, zz = wr.alloc (.cells #[.int .i64 (no j), .int .i64 (hr j), .int .i64 (wi j), .slice (FA j) (fn j) (fc j), .slice (RA j) (rn j) (rc j)] 44) := ⟨_, rfl⟩
          have HX : Hid (Blk wx2 wr.heap.size 44 #[.int .i64 (no j), .int .i64 (hr j), .int .i64 (wi j), .slice (FA j) (fn j) (fc j), .slice (RA j) (rn j) (rc j)]) := Lib.hid (hwx ▸ Blk.new _ _ _)
          have hb : Below wr.heap.size wr wx2 := hwx ▸ below_alloc _ _
          have HO2 : Hid (wx2.ownsRow w6.heap.size 59 3 (.slice A j c) j (rowD wi fn F rn R j)) := Lib.hid (hwx ▸ HO.out.alloc _)
          rw [← hwx]
          have HBL2 := Lib.hid (HBL.out.trans (hb.mono (by omega)))
          have HB2 := Lib.hid (HB1.out.trans (hb.mono (by omega)))
          have HK2 := Lib.hid (HK1.out.below hb (by omega))
          have HC2 := Lib.hid (HC.out.below hb (by omega))
          have HL2 := Lib.hid (HL.out.below hb hs7)
          have HRL : Hid (∀ q, (Value.slice A j c).ownBlock = some q → q < wr.heap.size) := Lib.hid fun q e => (HO.out.lt q e).2
          clear hwx hb HBL HB1 HK1 HC HL HO k0 k1 k2 k3 k4
          have hs2 := HX.out.lt
          have hz2 := HB2.out.size
          have cb0 : wx2.cell? ⟨w.heap.size, 0, none⟩ = some (.slice SA k sc) := HK2.out.cell 0
          have cc0 : wx2.cell? ⟨w.heap.size + 1, 0, none⟩ = some (.int .u64 (f0 : Nat)) := HC2.out.cell 0
          have cc1 : wx2.cell? ⟨w.heap.size + 1, 1, none⟩ = some (.int .u64 (f1 : Nat)) := HC2.out.cell 1
          have cc2 : wx2.cell? ⟨w.heap.size + 1, 2, none⟩ = some (.slice A j c) := HC2.out.cell 2
          have ff0 := HC2.out.frozen 0
          have ff1 := HC2.out.frozen 1
          have ff2 := HC2.out.frozen 2
          have cl0 : wx2.cell? ⟨w5.heap.size, 0, none⟩ = some (.int .i64 (lastN no j)) := HL2.out.cell 0
          have cl1 : wx2.cell? ⟨w5.heap.size, 1, none⟩ = some (.int .i64 (lastH hr j)) := HL2.out.cell 1
          have cx0 : wx2.cell? ⟨wr.heap.size, 0, none⟩ = some (.int .i64 (no j)) := HX.out.cell 0
          have cx1 : wx2.cell? ⟨wr.heap.size, 1, none⟩ = some (.int .i64 (hr j)) := HX.out.cell 1
          have cx2 : wx2.cell? ⟨wr.heap.size, 2, none⟩ = some (.int .i64 (wi j)) := HX.out.cell 2
          have cx3 : wx2.cell? ⟨wr.heap.size, 3, none⟩ = some (.slice (FA j) (fn j) (fc j)) := HX.out.cell 3
          have cx4 : wx2.cell? ⟨wr.heap.size, 4, none⟩ = some (.slice (RA j) (rn j) (rc j)) := HX.out.cell 4
          have HBAD : Hid (casB S k no hr wi fn F rn R j = false → E = 520) := Lib.hid (fun h => HEE.out.trans (chk_bad HZ.out hltj h))
          by_cases h4 : no j ≤ lastN no j
          · have HE := Lib.hid (HBAD.out (cas_no h4))
            go_wp2_with fail
            have hg := ((HC2.out.set_ 0 (.int .u64 (f0 : Nat))).set_ 1 (.int .u64 (f1 : Nat))).set_ 2 (.slice A j c)
            refine bodyPost_ret (results_row2 rfl _ _ _ 52 _ (0, 0) _ rfl hg Try.underlying52 rfl (by kernel_rfl)) rfl ?_
            exact ⟨HE.out.symm ▸ readR_bad (by decide), ((HB2.out.setCell (p := ⟨w.heap.size + 1, 0, none⟩) (by simp) _).setCell (p := ⟨w.heap.size + 1, 1, none⟩) (by simp) _).setCell (p := ⟨w.heap.size + 1, 2, none⟩) (by simp) _⟩
          go_wp2_with fail
          refine (within_41 _ _ _).mono ?_
          rintro e w' ⟨rfl, rfl⟩
          cases h1 : inB 1048576 (no j)
          · have HE := Lib.hid (HBAD.out (by simp [casB, numB, h1]))
            clear h1
            go_wp2_with fail
            have hg := ((HC2.out.set_ 0 (.int .u64 (f0 : Nat))).set_ 1 (.int .u64 (f1 : Nat))).set_ 2 (.slice A j c)
            refine bodyPost_ret (results_row2 rfl _ _ _ 52 _ (0, 0) _ rfl hg Try.underlying52 rfl (by kernel_rfl)) rfl ?_
            exact ⟨HE.out.symm ▸ readR_bad (by decide), ((HB2.out.setCell (p := ⟨w.heap.size + 1, 0, none⟩) (by simp) _).setCell (p := ⟨w.heap.size + 1, 1, none⟩) (by simp) _).setCell (p := ⟨w.heap.size + 1, 2, none⟩) (by simp) _⟩
          by_cases h5 : hr j < lastH hr j
          · have HE := Lib.hid (HBAD.out (cas_hr h5))
            clear h1
            go_wp2_with fail
            have hg := ((HC2.out.set_ 0 (.int .u64 (f0 : Nat))).set_ 1 (.int .u64 (f1 : Nat))).set_ 2 (.slice A j c)
            refine bodyPost_ret (results_row2 rfl _ _ _ 52 _ (0, 0) _ rfl hg Try.underlying52 rfl (by kernel_rfl)) rfl ?_
            exact ⟨HE.out.symm ▸ readR_bad (by decide), ((HB2.out.setCell (p := ⟨w.heap.size + 1, 0, none⟩) (by simp) _).setCell (p := ⟨w.heap.size + 1, 1, none⟩) (by simp) _).setCell (p := ⟨w.heap.size + 1, 2, none⟩) (by simp) _⟩
          go_wp2_with fail
          refine (within_41 _ _ _).mono ?_
          rintro e w' ⟨rfl, rfl⟩
          cases h2 : inB 4096 (hr j)
          · have HE := Lib.hid (HBAD.out (by simp [casB, numB, h2]))
            clear h2
            go_wp2_with fail
            have hg := ((HC2.out.set_ 0 (.int .u64 (f0 : Nat))).set_ 1 (.int .u64 (f1 : Nat))).set_ 2 (.slice A j c)
            refine bodyPost_ret (results_row2 rfl _ _ _ 52 _ (0, 0) _ rfl hg Try.underlying52 rfl (by kernel_rfl)) rfl ?_
            exact ⟨HE.out.symm ▸ readR_bad (by decide), ((HB2.out.setCell (p := ⟨w.heap.size + 1, 0, none⟩) (by simp) _).setCell (p := ⟨w.heap.size + 1, 1, none⟩) (by simp) _).setCell (p := ⟨w.heap.size + 1, 2, none⟩) (by simp) _⟩
          go_wp2_with fail
          refine (within_41 _ _ _).mono ?_
          rintro e w' ⟨rfl, rfl⟩
          cases h3 : inB 1 (wi j)
          · have HE := Lib.hid (HBAD.out (by simp [casB, numB, h3]))
            clear h3
            go_wp2_with fail
            have hg := ((HC2.out.set_ 0 (.int .u64 (f0 : Nat))).set_ 1 (.int .u64 (f1 : Nat))).set_ 2 (.slice A j c)
            refine bodyPost_ret (results_row2 rfl _ _ _ 52 _ (0, 0) _ rfl hg Try.underlying52 rfl (by kernel_rfl)) rfl ?_
            exact ⟨HE.out.symm ▸ readR_bad (by decide), ((HB2.out.setCell (p := ⟨w.heap.size + 1, 0, none⟩) (by simp) _).setCell (p := ⟨w.heap.size + 1, 1, none⟩) (by simp) _).setCell (p := ⟨w.heap.size + 1, 2, none⟩) (by simp) _⟩
          clear cl0 cl1
          go_wp2_with fail
          refine (of_39 (FA j) (fn j) (fc j) B (F j) k wx2 (by omega) (by have := HSM.out j hltj; omega) ((HR.out.below (HB2.out.mono hB)).2.2 j hltj).1).mono ?_
          rintro e w' ⟨rfl, rfl⟩
          cases h6 : okS k (F j) (fn j)
          · have HE := Lib.hid (HBAD.out (by simp [casB, h6]))
            rw [ofV_bad h6]
            clear h6 h1 h2 h3
            go_wp2_with fail
            refine (of_39 (RA j) (rn j) (rc j) B (R j) k wx2 (by omega) (by have := HSM.out j hltj; omega) ((HR.out.below (HB2.out.mono hB)).2.2 j hltj).2).mono ?_
            rintro e w' ⟨rfl, rfl⟩
            unfold ofV
            generalize (if okS k (R j) (rn j) = true then mask (R j) (rn j) else 0) = mm
            generalize okS k (R j) (rn j) = kk
            go_wp2_with fail
            have hg := ((HC2.out.set_ 0 (.int .u64 (f0 : Nat))).set_ 1 (.int .u64 (f1 : Nat))).set_ 2 (.slice A j c)
            refine bodyPost_ret (results_row2 rfl _ _ _ 52 _ (0, 0) _ rfl hg Try.underlying52 rfl (by kernel_rfl)) rfl ?_
            exact ⟨HE.out.symm ▸ readR_bad (by decide), ((HB2.out.setCell (p := ⟨w.heap.size + 1, 0, none⟩) (by simp) _).setCell (p := ⟨w.heap.size + 1, 1, none⟩) (by simp) _).setCell (p := ⟨w.heap.size + 1, 2, none⟩) (by simp) _⟩
          rw [ofV_ok h6]
          go_wp2_with fail
          refine (of_39 (RA j) (rn j) (rc j) B (R j) k wx2 (by omega) (by have := HSM.out j hltj; omega) ((HR.out.below (HB2.out.mono hB)).2.2 j hltj).2).mono ?_
          rintro e w' ⟨rfl, rfl⟩
          cases h7 : okS k (R j) (rn j)
          · have HE := Lib.hid (HBAD.out (by simp [casB, reaB, h7]))
            rw [ofV_bad h7]
            clear h7 h6 h1 h2 h3
            go_wp2_with fail
            have hg := ((HC2.out.set_ 0 (.int .u64 (f0 : Nat))).set_ 1 (.int .u64 (f1 : Nat))).set_ 2 (.slice A j c)
            refine bodyPost_ret (results_row2 rfl _ _ _ 52 _ (0, 0) _ rfl hg Try.underlying52 rfl (by kernel_rfl)) rfl ?_
            exact ⟨HE.out.symm ▸ readR_bad (by decide), ((HB2.out.setCell (p := ⟨w.heap.size + 1, 0, none⟩) (by simp) _).setCell (p := ⟨w.heap.size + 1, 1, none⟩) (by simp) _).setCell (p := ⟨w.heap.size + 1, 2, none⟩) (by simp) _⟩
          rw [ofV_ok h7]
          have hF0 := fun q hq => (okS_at (fn j) h6 q hq).1
          have hR0 := fun q hq => (okS_at (rn j) h7 q hq).1
          have lF : mask (F j) (fn j) < 18446744073709551616 := Nat.lt_of_lt_of_le (mask_lt (fn j) hF0) (Nat.le_trans (Nat.pow_le_pow_right (by omega) (show k ≤ 64 by omega)) (by decide))
          have lR : mask (R j) (rn j) < 18446744073709551616 := Nat.lt_of_lt_of_le (mask_lt (rn j) hR0) (Nat.le_trans (Nat.pow_le_pow_right (by omega) (show k ≤ 64 by omega)) (by decide))
          have HRB : Hid (∀ x, wi j = x → subB (mask (R j) (rn j)) (mask (F j) (fn j) &&& fav S x k) = reaB S k (F j) (fn j) (R j) (rn j) (wi j)) := Lib.hid fun x hx => by rw [rea_bits (by omega) h6 h7, reaB, h7, hx]; rfl
          clear hF0 hR0
          have hwi := inB_iff.1 h3
          have HRD : Hid (rowD wi fn F rn R j ++ [.int .i64 (wi j), .int .u64 (mask (F j) (fn j)), .int .u64 (mask (R j) (rn j))] = rowD wi fn F rn R (j + 1)) := Lib.hid (rowD_succ wi fn F rn R j)
          have HGD : Hid (reaB S k (F j) (fn j) (R j) (rn j) (wi j) = true → casN S k no hr wi fn F rn R (j + 1) = true) := Lib.hid fun h => by rw [casN, HCN.out, cas_of h1 h2 h3 (by omega) (by omega) h6 h]; rfl
          have HBD : Hid (reaB S k (F j) (fn j) (R j) (rn j) (wi j) = false → E = 520) := Lib.hid fun h => HBAD.out (by simp [casB, h])
          clear h1 h2 h3 h6 h7 HBAD
          obtain ⟨x, hx⟩ : ∃ x, x = wi j := ⟨_, rfl⟩
          obtain ⟨mF, hmF⟩ : ∃ mF, mF = mask (F j) (fn j) := ⟨_, rfl⟩
          obtain ⟨mR, hmR⟩ : ∃ mR, mR = mask (R j) (rn j) := ⟨_, rfl⟩
          obtain ⟨rb, hrb⟩ : ∃ rb, rb = reaB S k (F j) (fn j) (R j) (rn j) (wi j) := ⟨_, rfl⟩
          rw [← hmF, ← hmR] at HRD
          rw [← hmF] at lF ⊢
          rw [← hmR] at lR ⊢
          rw [← hmF, ← hmR, ← hrb, ← hx] at HRB
          rw [← hrb] at HGD HBD
          rw [← hx] at HX HRD cx2 hwi
          clear hx hmF hmR hrb
          obtain ⟨fx, hfx, hpick⟩ : ∃ fx, fx = (if x = 0 then f0 else f1) ∧ subB mR (mF &&& fx) = rb := ⟨_, rfl, by
            split
            · rw [HF0.out]; exact HRB.out 0 (by assumption)
            · rw [HF1.out]; exact HRB.out 1 (by omega)⟩
          have hfl : fx < 18446744073709551616 := by
            rw [hfx]
            have l0 := fav_lt (S := S) (x := 0) k
            have l1 := fav_lt (S := S) (x := 1) k
            have l2 : 2 ^ k ≤ 2 ^ 64 := Nat.pow_le_pow_right (by omega) (by omega)
            rw [← HF0.out] at l0
            rw [← HF1.out] at l1
            split <;> omega
          have hand := u64_and_nat mF fx lF hfl
          have lA : mF &&& fx < 18446744073709551616 := Nat.lt_of_le_of_lt Nat.and_le_left lF
          have HIN : Hid (∀ W, Calls Try.prog 35 #[.int .u64 mR, .int .u64 (mF &&& fx : Nat)] W fun e w' => e = .returned (.bool rb) ∧ W = w') := Lib.hid fun W => hpick ▸ in_35 mR (mF &&& fx) W lR lA
          clear HRB hpick lA hfl
          generalize mF &&& fx = ma at hand HIN
          go_upto_region 18 with fail
          go_cut [120] (fun s120 wc => s120 = .bool (!rb) ∧ wc = wx2)
          case first =>
            obtain rfl | rfl : x = 0 ∨ x = 1 := by omega
            · rw [if_pos rfl] at hfx
              subst hfx
              go_wp2_with fail
              refine (HIN.out _).mono ?_
              rintro e w' ⟨rfl, rfl⟩
              go_wp2_with fail
              go_meet
              case rel => exact ⟨rfl, rfl⟩
            · rw [if_neg (by decide)] at hfx
              subst hfx
              go_wp2_with fail
              refine (HIN.out _).mono ?_
              rintro e w' ⟨rfl, rfl⟩
              go_wp2_with fail
              go_meet
              case rel => exact ⟨rfl, rfl⟩
          case rest =>
            obtain ⟨rfl, rfl⟩ := hcut
            clear HIN hand hfx
            cases rb with
            | false =>
              have HE := Lib.hid (HBD.out rfl)
              go_wp2_with fail
              have hg := ((HC2.out.set_ 0 (.int .u64 (f0 : Nat))).set_ 1 (.int .u64 (f1 : Nat))).set_ 2 (.slice A j c)
              refine bodyPost_ret (results_row2 rfl _ _ _ 52 _ (0, 0) _ rfl hg Try.underlying52 rfl (by kernel_rfl)) rfl ?_
              exact ⟨HE.out.symm ▸ readR_bad (by decide), ((HB2.out.setCell (p := ⟨w.heap.size + 1, 0, none⟩) (by simp) _).setCell (p := ⟨w.heap.size + 1, 1, none⟩) (by simp) _).setCell (p := ⟨w.heap.size + 1, 2, none⟩) (by simp) _⟩
            | true =>
              have HV := Lib.hid (HGD.out rfl)
              go_upto_region 20 with fail
              clear cb0 cx0 cx1 cx3 cx4
              have hbig : w6.heap.size ≤ wc.heap.size := by omega
              have hne : ¬ w.heap.size + 1 = wr.heap.size := by omega
              have hne2 : ¬ wr.heap.size = w.heap.size + 1 := by omega
              go_upto_region 21 with (at_builtin; refine wpList_append_own_at _ rfl _ _ 50 rfl w6.heap.size 59 i0 (.agg #[.int .i64 0, .int .u64 0, .int .u64 0]) 3 24 Try.underlying50 hi hi0 hi1 hi2 rfl (by decide) (.slice A j c) j (rowD wi fn F rn R j) rfl (HO2.out.alloc _) ⟨_, 0, none⟩ 1 1 [.int .i64 x, .int .u64 mF, .int .u64 mR] rfl rfl (three_new _ _ _ _ _) (one_three _ _ _) (by unfold maxLen; omega) (by omega) (by simp; omega) ?_; intro vv w8 hown8 hgrow8 _ _; obtain ⟨A3, c3, hvv⟩ := own_form hown8; subst hvv; have hrow : ∀ q, (Value.slice A j c).ownBlock = some q → w6.heap.size ≤ q := fun q e => (HO2.out.lt q e).1; have hc8 := blk_of_grown (HC2.out.alloc _) hgrow8 (fun e => by have := hrow _ e; omega); have ff8 := hc8.frozen 2; have cc8 : w8.cell? ⟨w.heap.size + 1, 2, none⟩ = some (.slice A j c) := hc8.cell 2)
              clear cc8 ff8
              have hx8 := blk_of_grown (HX.out.alloc _) hgrow8 (fun e => by have := HRL.out _ e; omega)
              have hl8 := blk_of_grown (HL2.out.alloc _) hgrow8 (fun e => by have := hrow _ e; omega)
              have HX9 := Lib.hid (hx8.far (p := ⟨w.heap.size + 1, 2, none⟩) (by simp; omega) (.slice A3 (j + 1) c3))
              have HL9 := Lib.hid (hl8.far (p := ⟨w.heap.size + 1, 2, none⟩) (by simp; omega) (.slice A3 (j + 1) c3))
              have HC9 := Lib.hid (hc8.set_ 2 (.slice A3 (j + 1) c3))
              have HB9 := Lib.hid (((HB2.out.alloc hz2 _).grown hgrow8 (by simp; omega) (fun q e => by have := hrow q e; omega)).setCell (p := ⟨w.heap.size + 1, 2, none⟩) (by simp) (.slice A3 (j + 1) c3))
              have HBL9 := Lib.hid (((HBL2.out.alloc (by omega) _).grown hgrow8 (by simp; omega) (fun q e => by have := hrow q e; omega)).setCell (p := ⟨w.heap.size + 1, 2, none⟩) (by simp) (.slice A3 (j + 1) c3))
              rw [HRD.out] at hown8
              have HO9 := Lib.hid (own_set hown8 (p := ⟨w.heap.size + 1, 2, none⟩) (by simp; omega) (.slice A3 (j + 1) c3))
              clear hx8 hl8 hc8 hown8 hgrow8 HX HL2 HC2 HB2 HBL2 HO2 hne hne2 hrow cc0 cc1 cc2 ff0 ff1 ff2 cx2
              generalize w8.setCell ⟨w.heap.size + 1, 2, none⟩ (.slice A3 (j + 1) c3) = w9 at HX9 HL9 HC9 HB9 HBL9 HO9 ⊢
              have cl0 : w9.cell? ⟨w5.heap.size, 0, none⟩ = some (.int .i64 (lastN no j)) := HL9.out.cell 0
              have cl1 : w9.cell? ⟨w5.heap.size, 1, none⟩ = some (.int .i64 (lastH hr j)) := HL9.out.cell 1
              have cl2 : w9.cell? ⟨w5.heap.size, 2, none⟩ = some v2 := HL9.out.cell 2
              have cl3 : w9.cell? ⟨w5.heap.size, 3, none⟩ = some v3 := HL9.out.cell 3
              have cl4 : w9.cell? ⟨w5.heap.size, 4, none⟩ = some v4 := HL9.out.cell 4
              have fl0 := HL9.out.frozen 0
              have fl1 := HL9.out.frozen 1
              have fl2 := HL9.out.frozen 2
              have fl3 := HL9.out.frozen 3
              have fl4 := HL9.out.frozen 4
              have cx0 : w9.cell? ⟨wr.heap.size, 0, none⟩ = some (.int .i64 (no j)) := HX9.out.cell 0
              have cx1 : w9.cell? ⟨wr.heap.size, 1, none⟩ = some (.int .i64 (hr j)) := HX9.out.cell 1
              have cx2 : w9.cell? ⟨wr.heap.size, 2, none⟩ = some (.int .i64 x) := HX9.out.cell 2
              have cx3 : w9.cell? ⟨wr.heap.size, 3, none⟩ = some (.slice (FA j) (fn j) (fc j)) := HX9.out.cell 3
              have cx4 : w9.cell? ⟨wr.heap.size, 4, none⟩ = some (.slice (RA j) (rn j) (rc j)) := HX9.out.cell 4
              go_wp2_with fail
              go_roundw
              case rel =>
                refine ⟨j + 1, A3, c3, .int .i64 x, .slice (FA j) (fn j) (fc j), .slice (RA j) (rn j) (rc j), by omega, by go_num, HV, ((((HC9.out.far (p := ⟨w5.heap.size, 0, none⟩) (by simp; omega) (.int .i64 (no j))).far (p := ⟨w5.heap.size, 1, none⟩) (by simp; omega) (.int .i64 (hr j))).far (p := ⟨w5.heap.size, 2, none⟩) (by simp; omega) (.int .i64 x)).far (p := ⟨w5.heap.size, 3, none⟩) (by simp; omega) (.slice (FA j) (fn j) (fc j))).far (p := ⟨w5.heap.size, 4, none⟩) (by simp; omega) (.slice (RA j) (rn j) (rc j)), ?_, own_set (p := ⟨w5.heap.size, 4, none⟩) (own_set (p := ⟨w5.heap.size, 3, none⟩) (own_set (p := ⟨w5.heap.size, 2, none⟩) (own_set (p := ⟨w5.heap.size, 1, none⟩) (own_set (p := ⟨w5.heap.size, 0, none⟩) HO9.out (by simp; omega) _) (by simp; omega) _) (by simp; omega) _) (by simp; omega) _) (by simp; omega) _, ((((HBL9.out.setCell (p := ⟨w5.heap.size, 0, none⟩) (by simp; omega) _).setCell (p := ⟨w5.heap.size, 1, none⟩) (by simp; omega) _).setCell (p := ⟨w5.heap.size, 2, none⟩) (by simp; omega) _).setCell (p := ⟨w5.heap.size, 3, none⟩) (by simp; omega) _).setCell (p := ⟨w5.heap.size, 4, none⟩) (by simp; omega) _⟩
                rw [lastN_succ, lastH_succ]
                exact ((((HL9.out.set_ 0 _).set_ 1 _).set_ 2 _).set_ 3 _).set_ 4 _
              case measure => simp [intOf]; omega
        · obtain rfl : j = n := by omega
          have HE : Hid (E = 0) := Lib.hid (HEE.out.trans (chk_ok HZ.out HK.out HCN.out))
          have cc0 : wr.cell? ⟨w.heap.size + 1, 0, none⟩ = some (.int .u64 (f0 : Nat)) := HC.out.cell 0
          have cc1 : wr.cell? ⟨w.heap.size + 1, 1, none⟩ = some (.int .u64 (f1 : Nat)) := HC.out.cell 1
          have cc2 : wr.cell? ⟨w.heap.size + 1, 2, none⟩ = some (.slice A j c) := HC.out.cell 2
          have ff0 := HC.out.frozen 0
          have ff1 := HC.out.frozen 1
          have ff2 := HC.out.frozen 2
          go_wp2_with fail
          have hg := ((HC.out.set_ 0 (.int .u64 (f0 : Nat))).set_ 1 (.int .u64 (f1 : Nat))).set_ 2 (.slice A j c)
          refine bodyPost_ret (results_row2 rfl _ _ _ 52 _ (0, 0) _ rfl hg Try.underlying52 rfl (by kernel_rfl)) rfl ?_
          refine ⟨⟨f0, f1, A, j, c, by rw [HE.out]; rfl, fun _ => ⟨rfl, rfl, rfl, ?_, fun q e => by have := (HO.out.lt q e).1; omega⟩⟩, ((HB1.out.setCell (p := ⟨w.heap.size + 1, 0, none⟩) (by simp) _).setCell (p := ⟨w.heap.size + 1, 1, none⟩) (by simp) _).setCell (p := ⟨w.heap.size + 1, 2, none⟩) (by simp) _⟩
          exact Rd.of_own (own_set (own_set (own_set HO.out (by simp; omega) _) (by simp; omega) _) (by simp; omega) _) (fun i hi => rowD_at wi fn F rn R j i hi)
end Go.Proofs.Ytbojjhdcmogjdaa
