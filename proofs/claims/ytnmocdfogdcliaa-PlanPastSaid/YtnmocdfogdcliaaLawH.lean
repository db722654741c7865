/- Contract of the law PlanPast: it returns true for every course, all inflows and every number. -/
import Derived.Test.YtnmocdfogdcliaaGood29
import Derived.Test.YtnmocdfogdcliaaSane
import Derived.Test.YtnmocdfogdcliaaOpen2
import Derived.Deep.CutRange
namespace Go.Proofs.Ytnmocdfogdcliaa
open Go.RowKit

theorem info52 : (Try.prog.info? 52).map (fun i => (i.zero, i.size, i.bytes)) = some (some (.int .u32 0), 1, 4) := by kernel_rfl
theorem own_empty1 {W : World} {g base : Nat} (hg : Blk W g 52 #[]) (hb : base ≤ g) : W.ownsRow base 52 1 (.slice (some ⟨g, 0, none⟩) 0 0) 0 [] :=
  ⟨by simp, .inr ⟨g, 0, #[], rfl, hb, hg, Nat.le_refl _, by unfold maxLen; omega, by simp, by simp⟩⟩
/-- numbers of 32 bits -/
def rowU (f : Nat → Int) (k : Nat) : List Value := (List.range k).map fun j => .int .u32 (f j)
theorem rowU_len (f : Nat → Int) (k : Nat) : (rowU f k).length = k := by simp [rowU]
theorem rowU_one (f : Nat → Int) (k : Nat) : ∀ u ∈ rowU f k, u.oneCell' = true := by
  intro u hu
  obtain ⟨j, _, rfl⟩ := List.mem_map.1 hu
  rfl
theorem rowU_at (f : Nat → Int) (k j : Nat) : (rowU f k)[j]? = if j < k then some (.int .u32 (f j)) else none := by
  unfold rowU
  by_cases h : j < k
  · rw [if_pos h]; simp [h]
  · rw [if_neg h]; simp [h]
theorem rowU_cells {W : World} {B n k : Nat} {A : Option Addr} {f : Nat → Int} (h : Rd W B A n (fun j => .int .u32 (f j))) (hk : k ≤ n) : ∀ a, A = some a → ∀ j u, (rowU f k)[j]? = some u → W.cell? (a.add j) = some u := by
  intro a ha j u hu
  rw [rowU_at] at hu
  by_cases hj : j < k
  · rw [if_pos hj] at hu
    injection hu with hu
    subst hu
    obtain ⟨b, o, e, _, hc⟩ := h (by omega)
    rw [ha] at e
    injection e with e
    subst e
    rw [Addr.add_lit]
    exact hc j (by omega)
  · rw [if_neg hj] at hu
    cases hu
/-- the first k of one row, then another -/
def mixU (u v : Nat → Int) (k j : Nat) : Int := if j < k then u j else v (j - k)
theorem mixU_rd {W : World} {base k m c : Nat} {A : Option Addr} {u v : Nat → Int} (h : W.ownsRow base 52 1 (.slice A (k + m) c) (k + m) (rowU u k ++ rowU v m)) : Rd W W.heap.size A (k + m) (fun j => .int .u32 (mixU u v k j)) := by
  have := Rd.of_own h (f := fun j => .int .u32 (mixU u v k j)) (fun j hj => by
    unfold mixU
    by_cases h1 : j < k
    · rw [if_pos h1, List.getElem?_append_left (by rw [rowU_len]; exact h1), rowU_at, if_pos h1]
    · rw [if_neg h1, List.getElem?_append_right (by rw [rowU_len]; omega), rowU_len, rowU_at, if_pos (by omega)])
  rw [Nat.mul_one] at this
  exact this

/-- the least of three, at the values -/
theorem min3_at {P : Program} {ts : Array TypeId} {ty : TypeId} {i j l m : Int} (hm : m = min (min i j) l) : ∀ w : World, Sem.run P (Builtin.min_ ts ty #[.int .i64 i, .int .i64 j, .int .i64 l]) w = .ok (.int .i64 m) w := by
  intro w
  have e : (if l < (if j < i then j else i) then l else (if j < i then j else i)) = m := by split <;> split at * <;> omega
  simp [Builtin.min_, Builtin.min2, e]

set_option maxRecDepth 100000 in
set_option maxHeartbeats 8000000 in
theorem past_8 {PA : Option Addr} {n pc : Nat} {cp st fl : Int} {lo hi dm ou sp : Nat → Int} (B um uc vm vc : Nat) (UA VA : Option Addr) (u v : Nat → Int) (a3 : Int) (w : World) (hn : n ≤ 9223372036854775807) (huc : um ≤ uc ∧ uc ≤ 9223372036854775807) (hvm : vm * 4 ≤ 140737488351232) (hu0 : UA = none → um = 0 ∧ uc = 0) (hv0 : VA = none → vm = 0) (h3 : 0 ≤ a3 ∧ a3 ≤ 255) (hu : ∀ j, 0 ≤ u j ∧ u j ≤ 4294967295) (hv : ∀ j, 0 ≤ v j ∧ v j ≤ 4294967295) (hB : B ≤ w.heap.size) (hr : Rd w B PA (n * 5) (psc lo hi dm ou sp)) (hf : Rd w B UA um (fun j => .int .u32 (u j))) (hf2 : Rd w B VA vm (fun j => .int .u32 (v j))) :
    Calls Try.prog 8 #[(.agg #[.int .i64 cp, .int .i64 st, .int .i64 fl, .slice PA n pc]), .slice UA um uc, .slice VA vm vc, .int .u8 a3] w fun e w' => e = .returned (.bool true) ∧ Below w.heap.size w w' := by
  obtain ⟨w0, hw0⟩ : ∃ zz, zz = w.alloc (.cells #[.int .i64 cp, .int .i64 st, .int .i64 fl, .slice PA n pc] 26) := ⟨_, rfl⟩
  have HK0 : Hid (Blk w0 w.heap.size 26 #[.int .i64 cp, .int .i64 st, .int .i64 fl, .slice PA n pc]) := Lib.hid (hw0 ▸ Blk.new _ _ _)
  have HB0 : Hid (Below w.heap.size w w0) := Lib.hid (hw0 ▸ below_alloc _ _)
  have HW := Lib.hid hw0
  have HRD := Lib.hid hr
  have HFU := Lib.hid hf
  have HFV := Lib.hid hf2
  have HU := Lib.hid hu
  have HV := Lib.hid hv
  have H12 : Hid (∀ W, Below w.heap.size w W → Calls Try.prog 12 #[(.agg #[.int .i64 cp, .int .i64 st, .int .i64 fl, .slice PA n pc])] W fun e w' => RobR (chkE cp st fl n lo hi dm ou sp) n (rb cp fl n lo hi dm ou sp) e w' ∧ Below W.heap.size W w') := Lib.hid fun W h => Robust_12 B W hn (by have := h.size; omega) (hr.below (h.mono hB))
  clear hw0 hr hn hf hf2 hu hv
  obtain ⟨CE, hCEq⟩ : ∃ CE, CE = (chkE cp st fl n lo hi dm ou sp) := ⟨_, rfl⟩
  rw [← hCEq] at H12
  have HCE := Lib.hid hCEq
  clear hCEq
  go_enter Try.func8, Try.ntmps8
  go_upto_region 1 with fail
  rw [← HW.out]
  clear HW
  go_wp2_with fail
  refine (sane_11 _).mono ?_
  rintro e w1 ⟨rfl, hb⟩
  have HB1 := Lib.hid (HB0.out.trans (hb.mono HB0.out.size))
  have HK1 := Lib.hid (HK0.out.below hb HK0.out.lt)
  clear hb HB0 HK0
  have c0 : w1.cell? ⟨w.heap.size, 0, none⟩ = some (.int .i64 cp) := HK1.out.cell 0
  have c1 : w1.cell? ⟨w.heap.size, 1, none⟩ = some (.int .i64 st) := HK1.out.cell 1
  have c2 : w1.cell? ⟨w.heap.size, 2, none⟩ = some (.int .i64 fl) := HK1.out.cell 2
  have c3 : w1.cell? ⟨w.heap.size, 3, none⟩ = some (.slice PA n pc) := HK1.out.cell 3
  go_wp2_with fail
  refine (H12.out _ HB1.out).mono ?_
  rintro e w2 ⟨⟨A1, k1, m1, rfl, hz1, hn1⟩, hb⟩
  have HB2 := Lib.hid (HB1.out.trans (hb.mono HB1.out.size))
  have HK2 := Lib.hid (HK1.out.below hb HK1.out.lt)
  have HZ1 := Lib.hid hz1
  clear hb HB1 HK1 hz1 hn1 c0 c1 c2 c3
  by_cases hCE : ¬ CE = 0
  · have h1d : (CE == 0) = false := by simpa using hCE
    have h1e : (CE != 0) = true := by simpa using hCE
    go_upto_region 4 with fail
    obtain ⟨w3, hw3⟩ : ∃ zz, zz = w2.alloc (.cells #[.slice A1 k1 m1] 28) := ⟨_, rfl⟩
    have HB3 : Hid (Below w.heap.size w w3) := Lib.hid (hw3 ▸ HB2.out.alloc HB2.out.size _)
    rw [← hw3]
    clear hw3
    go_wp2_with fail
    go_ret
    exact ⟨rfl, HB3.out⟩
  have hCE : CE = 0 := by omega
  subst hCE
  obtain ⟨rfl, rfl, hrow⟩ := HZ1.out rfl
  have HROW2 := Lib.hid hrow
  have HKC : Hid ((chkE cp st fl n lo hi dm ou sp) = 0) := Lib.hid HCE.out.symm
  have h64 : n ≤ 64 := (chk_zero HKC.out).1
  clear HZ1 hrow H12 HCE
  have hw1 : IntKind.i64.wrap ((n : Int) + 1) = n + 1 := IntWalk.i64_in _ ⟨by omega, by omega⟩
  go_upto_region 4 with fail
  obtain ⟨e1, he1⟩ : ∃ zz, zz = w2.alloc (.cells #[.slice A1 (n + 1) (n + 1)] 28) := ⟨_, rfl⟩
  have HL1 : Hid (Blk e1 w2.heap.size 28 #[.slice A1 (n + 1) (n + 1)]) := Lib.hid (he1 ▸ Blk.new _ _ _)
  have HC1 : Hid (Blk e1 w.heap.size 26 #[.int .i64 cp, .int .i64 st, .int .i64 fl, .slice PA n pc]) := Lib.hid (he1 ▸ HK2.out.alloc _)
  have HB3 : Hid (Below w.heap.size w e1) := Lib.hid (he1 ▸ HB2.out.alloc HB2.out.size _)
  have HROW : Hid (Rd e1 w2.heap.size A1 ((n + 1) * 2) (rsc (rb cp fl n lo hi dm ou sp))) := Lib.hid (he1 ▸ HROW2.out.alloc (Nat.le_refl _) _)
  have hlw : w.heap.size ≤ w2.heap.size := HB2.out.size
  rw [← he1]
  clear he1 HB2 HK2 HROW2
  generalize w2.heap.size = lb at *
  clear w2
  have hllt := HL1.out.lt
  have l0 : e1.cell? ⟨lb, 0, none⟩ = some (.slice A1 (n + 1) (n + 1)) := HL1.out.cell 0
  have c3 : e1.cell? ⟨w.heap.size, 3, none⟩ = some (.slice PA n pc) := HC1.out.cell 3
  have c3' : e1.cell? ⟨w.heap.size, 2 + 1, none⟩ = some (.slice PA n pc) := HC1.out.cell 3
  obtain ⟨kk, hkk⟩ : ∃ kk : Nat, (kk : Int) = min (min a3 (um : Int)) (n : Int) := ⟨(min (min a3 (um : Int)) (n : Int)).toNat, by omega⟩
  have HKK := Lib.hid hkk
  have hkk1 : kk ≤ um ∧ kk ≤ n := by omega
  have hwa3 : IntKind.i64.wrap a3 = a3 := IntWalk.i64_in _ ⟨by omega, by omega⟩
  clear hkk
  go_upto_region 6 with fail
  have hmin := min3_at (P := Try.prog) (ts := #[3, 3, 3]) (ty := 3) HKK.out
  go_upto_region 7 with fail
  clear l0 c3 c3' h3 hwa3 hmin
  obtain ⟨i52, hj, hj0, hj1, hj2⟩ := info_parts info52
  have hku : (kk : Int) ≤ (uc : Int) := by omega
  have hku' : kk ≤ uc := by omega
  have HNN1 : Hid (UA = none → kk = 0) := Lib.hid fun h => by have := hu0 h; omega
  have HNW1 := Lib.hid (rowU_cells (HFU.out.below ((HB3.out.alloc HB3.out.size (.cells #[] 52)).mono hB)) hkk1.1)
  go_upto_region 8 with (at_builtin; first
    | (refine wpList_append_any rfl _ _ 45 rfl e1.heap.size 52 i52 (.int .u32 0) 1 4 Try.underlying45 hj hj0 hj1 hj2 rfl (by decide) (.slice Aa kk cva) kk (rowU u kk) rfl HOWN.out VA vm _ (rowU v vm) rfl (by rw [rowU_len]; omega) hv0 (rowU_cells (HFV.out.below ((HB3.out.trans (HBA.out.mono HB3.out.size)).mono hB)) (Nat.le_refl _)) (rowU_one _ _) (by unfold maxLen; omega) (by omega) HBA.out.size ?_; intro vb wb hown2 hgrow2 _; obtain ⟨MA, mc, hvb⟩ := own_form hown2; subst hvb; have HMX := Lib.hid (mixU_rd hown2); have HCB := Lib.hid (blk_low HCA.out hgrow2 HOWN.out (Nat.lt_of_le_of_lt hlw hllt)); have HLB := Lib.hid (blk_low HLA.out hgrow2 HOWN.out hllt); have HBB : Hid (Below e1.heap.size e1 wb) := Lib.hid (HBA.out.grown hgrow2 HBA.out.size (fun q hq => (HOWN.out.lt q hq).1)); clear hown2 hgrow2)
    | (refine wpList_append_any rfl _ _ 45 rfl e1.heap.size 52 i52 (.int .u32 0) 1 4 Try.underlying45 hj hj0 hj1 hj2 rfl (by decide) (.slice (some ⟨e1.heap.size, 0, none⟩) 0 0) 0 [] rfl (own_empty1 (Blk.new _ _ _) (Nat.le_refl _)) UA kk _ (rowU u kk) rfl (by rw [rowU_len]; omega) HNN1.out HNW1.out (rowU_one _ _) (by unfold maxLen; omega) (by omega) (by simp) ?_; intro va wa hown1 hgrow1 _; rw [Nat.zero_add, List.nil_append] at hown1; obtain ⟨Aa, cva, hva⟩ := own_form hown1; subst hva; have HOWN := Lib.hid hown1; have HCA := Lib.hid (blk_of_grown (HC1.out.alloc _) hgrow1 (fun e => (show w.heap.size ≠ e1.heap.size by omega) (Option.some.inj e).symm)); have HLA := Lib.hid (blk_of_grown (HL1.out.alloc _) hgrow1 (fun e => (show lb ≠ e1.heap.size by omega) (Option.some.inj e).symm)); have HBA : Hid (Below e1.heap.size e1 wa) := Lib.hid ((below_alloc e1 (.cells #[] 52)).grown hgrow1 (by simp) (fun q e => Nat.le_of_eq (Option.some.inj e))); clear hown1 hgrow1))
  have HB4 : Hid (Below w.heap.size w wb) := Lib.hid (HB3.out.trans (HBB.out.mono HB3.out.size))
  have HROW2 : Hid (Rd wb wb.heap.size A1 ((n + 1) * 2) (rsc (rb cp fl n lo hi dm ou sp))) := Lib.hid ((HROW.out.below (HBB.out.mono (Nat.le_of_lt hllt))).mono (by have := HBB.out.size; omega))
  have HP2 : Hid (Rd wb wb.heap.size PA (n * 5) (psc lo hi dm ou sp)) := Lib.hid ((HRD.out.below (HB4.out.mono hB)).mono (by have := HB4.out.size; omega))
  have HF2 : Hid (Rd wb wb.heap.size UA um (fun j => .int .u32 (u j))) := Lib.hid ((HFU.out.below (HB4.out.mono hB)).mono (by have := HB4.out.size; omega))
  clear HOWN HCA HLA HBA HBB HNN1 HNW1 HC1 HL1 HB3 HROW HRD HFU HFV hj hj0 hj1 hj2 i52
  obtain ⟨e2, he2⟩ : ∃ y, y = wb := ⟨_, rfl⟩
  subst he2
  have HG := Lib.hid (good_of HKC.out)
  obtain ⟨KP, hKP⟩ : ∃ KP, KP = ri3 (rb cp fl n lo hi dm ou sp 0).1 st (rb cp fl n lo hi dm ou sp 0).2 := ⟨_, rfl⟩
  have HKP := Lib.hid hKP
  clear hKP
  obtain ⟨R1, hR1⟩ : ∃ R1, R1 = rS cp st fl n lo hi dm ou sp (atV u um) := ⟨_, rfl⟩
  obtain ⟨X1, hX1⟩ : ∃ X1, X1 = xS cp st fl n lo hi dm ou sp (atV u um) := ⟨_, rfl⟩
  obtain ⟨R2, hR2⟩ : ∃ R2, R2 = rS cp st fl n lo hi dm ou sp (atV (mixU u v kk) (kk + vm)) := ⟨_, rfl⟩
  have HEQ : Hid (∀ t, t ≤ kk → R1 t = R2 t) := Lib.hid fun t ht => by
    rw [hR1, hR2]
    refine rS_same (k := kk) (fun j hj => ?_) ht
    unfold atV mixU
    rw [if_pos (by omega), if_pos (by omega), if_pos hj]
  have HA1 : Hid (∀ W, Below e2.heap.size e2 W → Calls Try.prog 28 #[(.agg #[.int .i64 cp, .int .i64 st, .int .i64 fl, .slice PA n pc]), .slice A1 (n + 1) (n + 1), .slice UA um uc] W fun e w' => ∃ (L M oc sc : Nat) (O S : Option Addr), e = .returned (.tuple #[.slice O L oc, .slice S M sc]) ∧ (KP = false → L = 0) ∧ (KP = true → L = n ∧ M = n) ∧
      Rd w' w'.heap.size O L (fun j => .int .i64 (R1 j)) ∧ Rd w' w'.heap.size S M (fun j => .int .i64 (X1 j)) ∧ Below W.heap.size W w') := Lib.hid fun W h => by
    have := rel_28 (pc := pc) (PA := PA) (cp := cp) (st := st) (fl := fl) (lo := lo) (hi := hi) (dm := dm) (ou := ou) (sp := sp) e2.heap.size um uc (n + 1) UA A1 u W HKC.out HU.out h.size (HP2.out.below h) (HROW2.out.below h) (HF2.out.below h)
    rw [← HKP.out, ← hR1, ← hX1] at this
    exact this
  have HA2 : Hid (∀ W, Below e2.heap.size e2 W → Calls Try.prog 28 #[(.agg #[.int .i64 cp, .int .i64 st, .int .i64 fl, .slice PA n pc]), .slice A1 (n + 1) (n + 1), .slice MA (kk + vm) mc] W fun e w' => ∃ (L M oc sc : Nat) (O S : Option Addr), e = .returned (.tuple #[.slice O L oc, .slice S M sc]) ∧ (KP = false → L = 0) ∧ (KP = true → L = n ∧ M = n) ∧
      Rd w' w'.heap.size O L (fun j => .int .i64 (R2 j)) ∧ Below W.heap.size W w') := Lib.hid fun W h => by
    refine (rel_28 (pc := pc) (PA := PA) (cp := cp) (st := st) (fl := fl) (lo := lo) (hi := hi) (dm := dm) (ou := ou) (sp := sp) e2.heap.size (kk + vm) mc (n + 1) MA A1 (mixU u v kk) W HKC.out (fun j => ?_) h.size (HP2.out.below h) (HROW2.out.below h) (HMX.out.below h)).mono ?_
    · unfold mixU
      split
      · exact HU.out j
      · exact HV.out _
    · rintro e w' ⟨L, M, oc, sc, O, S, rfl, h1, h2, h3, _, h5⟩
      exact ⟨L, M, oc, sc, O, S, rfl, fun h => h1 (HKP.out.symm.trans h), fun h => h2 (HKP.out.symm.trans h), hR2 ▸ h3, h5⟩
  have HGK : Hid (KP = true → ∀ W k V r tb xb sb sc (SA : Option Addr), k < n → ((V = true ∧ r = R1 k) ∨ (V = false ∧ r = R1 k - 1 ∧ dm k < R1 k)) → Below e2.heap.size e2 W → Rd W W.heap.size SA n (fun j => .int .i64 (X1 j)) → Blk W w.heap.size 26 #[.int .i64 cp, .int .i64 st, .int .i64 fl, .slice PA n pc] → Blk W tb 3 #[.int .i64 k] → Blk W sb 41 #[.slice SA n sc] → Blk W xb 50 #[.int .i64 (lo k), .int .i64 (hi k), .int .i64 (dm k), .int .i64 (ou k), .int .i64 (sp k)] → Blk W lb 28 #[.slice A1 (n + 1) (n + 1)] →
      Calls Try.prog 29 #[.int .i64 r, .pointer (some ⟨w.heap.size, 0, none⟩), .pointer (some ⟨tb, 0, none⟩), .pointer (some ⟨sb, 0, none⟩), .pointer (some ⟨xb, 0, none⟩), .pointer (some ⟨lb, 0, none⟩)] W fun e w' => e = .returned (.bool V) ∧ Below W.heap.size W w') := Lib.hid fun hK W k V r tb xb sb sc SA hk hv h hs hc ht hsb hx hl => by
    rw [hR1] at hv
    rw [hX1] at hs
    exact good_k (B := W.heap.size) (LA := A1) w.heap.size tb sb xb lb k sc (n + 1) SA (atV u um) V r W HKC.out (HKP.out.symm.trans hK) hk hv (Nat.le_refl _) ((HP2.out.below h).mono h.size) ((HROW2.out.below h).mono h.size) hs hc ht hsb hx hl
  have HRB : Hid (KP = true → ∀ k, k < n → 0 ≤ dm k ∧ dm k ≤ R1 k ∧ R1 k ≤ 1099511627776) := Lib.hid fun hK k hk => by
    have hst : 0 ≤ st ∧ st ≤ cp := ⟨(chk_zero HKC.out).2.1.1, (chk_zero HKC.out).2.1.2.1⟩
    obtain ⟨hx1, _⟩ := xS_ok HG.out hst (HKP.out.symm.trans hK) (atV u um) k (by omega)
    obtain ⟨⟨g1, g2, g3⟩, ⟨g4, g5, g6⟩, g7, g8⟩ := HG.out.2.2.2 k hk
    obtain ⟨⟨k1, k2, k3⟩, _⟩ := keep_ok (q := lo k) HG.out hk hx1 ⟨Int.le_refl _, g2⟩ rfl
    have e : R1 k = _ := congrFun hR1 k
    have k1' : dm k ≤ R1 k := by rw [e]; exact k1
    have k2' : R1 k ≤ ou k := by rw [e]; exact k2
    omega
  have HPP : Hid (∀ W, Below e2.heap.size e2 W → Rd W W.heap.size PA (n * 5) (psc lo hi dm ou sp)) := Lib.hid fun W h => (HP2.out.below h).mono h.size
  clear hR1 hX1 hR2 HKC HU HV HMX HROW2 HP2 HF2 HG HKP hu0 hv0 hvm hku hku'
  have hz2 := HB4.out.size
  have c0 : e2.cell? ⟨w.heap.size, 0, none⟩ = some (.int .i64 cp) := HCB.out.cell 0
  have c1 : e2.cell? ⟨w.heap.size, 1, none⟩ = some (.int .i64 st) := HCB.out.cell 1
  have c2 : e2.cell? ⟨w.heap.size, 2, none⟩ = some (.int .i64 fl) := HCB.out.cell 2
  have c3 : e2.cell? ⟨w.heap.size, 3, none⟩ = some (.slice PA n pc) := HCB.out.cell 3
  have l0 : e2.cell? ⟨lb, 0, none⟩ = some (.slice A1 (n + 1) (n + 1)) := HLB.out.cell 0
  go_wp2_with fail
  refine (HA1.out _ (Below.refl _ _)).mono ?_
  rintro e e3 ⟨L, M, oc, sc, O, S, rfl, hL0, hL1, ho, hs, hb⟩
  clear c0 c1 c2 c3 l0 HA1
  go_upto_region 9 with fail
  obtain ⟨e4, he4⟩ : ∃ zz, zz = e3.alloc (.cells #[.slice S M sc] 41) := ⟨_, rfl⟩
  have HSB4 : Hid (Blk e4 e3.heap.size 41 #[.slice S M sc]) := Lib.hid (he4 ▸ Blk.new _ _ _)
  have HC4 : Hid (Blk e4 w.heap.size 26 #[.int .i64 cp, .int .i64 st, .int .i64 fl, .slice PA n pc]) := Lib.hid (he4 ▸ (HCB.out.below hb HCB.out.lt).alloc _)
  have HL4 : Hid (Blk e4 lb 28 #[.slice A1 (n + 1) (n + 1)]) := Lib.hid (he4 ▸ (HLB.out.below hb HLB.out.lt).alloc _)
  have HO4 : Hid (Rd e4 e3.heap.size O L (fun j => .int .i64 (R1 j))) := Lib.hid (he4 ▸ ho.alloc (Nat.le_refl _) _)
  have HS4 : Hid (Rd e4 e3.heap.size S M (fun j => .int .i64 (X1 j))) := Lib.hid (he4 ▸ hs.alloc (Nat.le_refl _) _)
  have HE4 : Hid (Below e2.heap.size e2 e4) := Lib.hid (he4 ▸ hb.alloc hb.size _)
  rw [← he4]
  clear he4 ho hs hb HCB HLB
  generalize e3.heap.size = sb at *
  clear e3
  have c0 : e4.cell? ⟨w.heap.size, 0, none⟩ = some (.int .i64 cp) := HC4.out.cell 0
  have c1 : e4.cell? ⟨w.heap.size, 1, none⟩ = some (.int .i64 st) := HC4.out.cell 1
  have c2 : e4.cell? ⟨w.heap.size, 2, none⟩ = some (.int .i64 fl) := HC4.out.cell 2
  have c3 : e4.cell? ⟨w.heap.size, 3, none⟩ = some (.slice PA n pc) := HC4.out.cell 3
  have l0 : e4.cell? ⟨lb, 0, none⟩ = some (.slice A1 (n + 1) (n + 1)) := HL4.out.cell 0
  go_wp2_with fail
  refine (HA2.out _ HE4.out).mono ?_
  rintro e e5 ⟨L2, M2, oc2, sc2, O2, S2, rfl, hL20, hL21, ho2, hb⟩
  have hsl := HSB4.out.lt
  have HSB := Lib.hid (HSB4.out.below hb hsl)
  have HC := Lib.hid (HC4.out.below hb HC4.out.lt)
  have HL := Lib.hid (HL4.out.below hb HL4.out.lt)
  have HO := Lib.hid ((HO4.out.below (hb.mono (Nat.le_of_lt hsl))).mono (show sb ≤ e5.heap.size by have := hb.size; omega))
  have HS := Lib.hid ((HS4.out.below (hb.mono (Nat.le_of_lt hsl))).mono (show sb ≤ e5.heap.size by have := hb.size; omega))
  have HO2 := Lib.hid ho2
  have HE := Lib.hid (HE4.out.trans (hb.mono HE4.out.size))
  have HB5 : Hid (Below w.heap.size w e5) := Lib.hid (HB4.out.trans (HE.out.mono hz2))
  clear hb ho2 HSB4 HC4 HL4 HO4 HS4 HE4 HA2 HB4 c0 c1 c2 c3 l0 hsl
  clear e4
  have hz5 := HE.out.size
  have hwk : IntKind.i64.wrap ((kk : Int) + 1) = (kk : Int) + 1 := IntWalk.i64_in _ ⟨by omega, by omega⟩
  cases KP
  · obtain rfl : L = 0 := hL0 rfl
    obtain rfl : L2 = 0 := hL20 rfl
    have hmin := min3_at (P := Try.prog) (ts := #[3, 3, 3]) (ty := 3) (i := 0) (j := 0) (l := (kk : Int) + 1) (m := 0) (by omega)
    have hmin' := min3_at (P := Try.prog) (ts := #[3, 3, 3]) (ty := 3) (i := ((0 : Nat) : Int)) (j := ((0 : Nat) : Int)) (l := (kk : Int) + 1) (m := 0) (by omega)
    go_wp2_with fail
    go_loopw [78] (fun i wr => i = .int .i64 0 ∧ wr = e5) (fun _ _ => 0)
    case atStart => exact ⟨rfl, rfl⟩
    case round =>
      obtain ⟨rfl, rfl⟩ := hrel
      go_wp2_with fail
      go_loopw [93] (fun i wr2 => i = .int .i64 0 ∧ wr2 = wr) (fun _ _ => 0)
      case atStart => exact ⟨rfl, rfl⟩
      case round =>
        obtain ⟨rfl, rfl⟩ := hrel
        go_wp2_with fail
        go_ret
        exact ⟨rfl, HB5.out⟩
  · obtain ⟨q1, q2⟩ := hL1 rfl
    obtain rfl : n = L := q1.symm
    obtain rfl : n = M := q2.symm
    obtain rfl : n = L2 := (hL21 rfl).1.symm
    clear hL0 hL1 hL20 hL21 q1 q2
    obtain ⟨mm, hmm⟩ : ∃ mm : Nat, (mm : Int) = min (min (n : Int) (n : Int)) ((kk : Int) + 1) := ⟨(min (min (n : Int) (n : Int)) ((kk : Int) + 1)).toNat, by omega⟩
    have hmin := min3_at (P := Try.prog) (ts := #[3, 3, 3]) (ty := 3) hmm
    have hmm1 : mm ≤ n ∧ mm ≤ kk + 1 := by omega
    have HGK2 := Lib.hid (HGK.out rfl)
    have HRB2 := Lib.hid (HRB.out rfl)
    clear hmm HGK HRB
    go_wp2_with fail
    clear hmin
    go_loopw [78] (fun i wr => ∃ k : Nat, k ≤ mm ∧ i = .int .i64 k ∧ Below e5.heap.size e5 wr) (fun i _ => mm - (intOf i).toNat)
    case atStart => exact ⟨0, Nat.zero_le _, rfl, Below.refl _ _⟩
    case round =>
      obtain ⟨k, hk, rfl, hb⟩ := hrel
      have HD1 := Lib.hid hb
      clear hb
      by_cases hlt : k < mm
      · have hlt' : (k : Int) < (mm : Int) := by omega
        have hkn : (k : Int) < (n : Int) := by omega
        have hkn' : k < n := by omega
        obtain ⟨b1, o1, rfl, _, hc1⟩ := (HO.out.below HD1.out) (by omega)
        obtain ⟨b2, o2, rfl, _, hc2⟩ := (HO2.out.below HD1.out) (by omega)
        have q0 : wr.cell? ⟨b1, o1 + k, none⟩ = some (.int .i64 (R1 k)) := hc1 k hkn'
        have q1 : wr.cell? ⟨b2, o2 + k, none⟩ = some (.int .i64 (R2 k)) := hc2 k hkn'
        rw [← HEQ.out k (by omega)] at q1
        generalize R1 k = rk at q0 q1
        clear hc1 hc2
        go_upto_region 13 with fail
        go_quiet (fail)
        go_wp2_with fail
        go_roundw
        case rel => exact ⟨k + 1, by omega, by go_num, below_quiet HD1.out ⟨_, rfl⟩⟩
        case measure => simp [intOf]; omega
      · have hlt' : ¬ (k : Int) < (mm : Int) := by omega
        go_wp2_with fail
        go_loopw [93] (fun i wr2 => ∃ k : Nat, k ≤ n ∧ i = .int .i64 k ∧ Below e5.heap.size e5 wr2) (fun i _ => n - (intOf i).toNat)
        case atStart => exact ⟨0, Nat.zero_le _, rfl, HD1.out⟩
        case round =>
          obtain ⟨t, ht, rfl, hb⟩ := hrel
          have HD2 := Lib.hid hb
          have HB6 : Hid (Below w.heap.size w wr) := Lib.hid (HB5.out.trans (hb.mono HB5.out.size))
          have HS6 := Lib.hid (HSB.out.below hb HSB.out.lt)
          have HC6 := Lib.hid (HC.out.below hb HC.out.lt)
          have HL6 := Lib.hid (HL.out.below hb HL.out.lt)
          have HE6 := Lib.hid (HE.out.trans (hb.mono hz5))
          clear hb
          by_cases htn : ¬ t < n
          · have htn' : ¬ (t : Int) < (n : Int) := by omega
            go_wp2_with fail
            go_ret
            exact ⟨rfl, HB6.out⟩
          have htn : t < n := by omega
          have htn' : (t : Int) < (n : Int) := by omega
          obtain ⟨b1, o1, rfl, _, hc1⟩ := (HO.out.below HD2.out) (by omega)
          have q0 : wr.cell? ⟨b1, o1 + t, none⟩ = some (.int .i64 (R1 t)) := hc1 t htn
          obtain ⟨r1, r2, r3⟩ := HRB2.out t htn
          have HG1 := Lib.hid (fun W V r tb xb sb sc SA => HGK2.out W t V r tb xb sb sc SA htn)
          generalize R1 t = r at *
          clear hc1
          go_upto_region 19 with fail
          obtain ⟨f1, hf1⟩ : ∃ zz, zz = wr.alloc (.cells #[.int .i64 t] 3) := ⟨_, rfl⟩
          have HT1 : Hid (Blk f1 wr.heap.size 3 #[.int .i64 t]) := Lib.hid (hf1 ▸ Blk.new _ _ _)
          have HS7 : Hid (Blk f1 sb 41 #[.slice S n sc]) := Lib.hid (hf1 ▸ HS6.out.alloc _)
          have HC7 : Hid (Blk f1 w.heap.size 26 #[.int .i64 cp, .int .i64 st, .int .i64 fl, .slice PA n pc]) := Lib.hid (hf1 ▸ HC6.out.alloc _)
          have HL7 : Hid (Blk f1 lb 28 #[.slice A1 (n + 1) (n + 1)]) := Lib.hid (hf1 ▸ HL6.out.alloc _)
          have HD7 : Hid (Below e5.heap.size e5 f1) := Lib.hid (hf1 ▸ HD2.out.alloc HD2.out.size _)
          rw [← hf1]
          clear hf1 HS6 HC6 HL6 HD2 HE6 HB6 q0
          generalize wr.heap.size = tb at *
          clear wr
          obtain ⟨b, o, rfl, _, p0, p1, p2, p3, p4⟩ := per_at (HPP.out f1 (HE.out.trans (HD7.out.mono hz5))) htn
          have x3 : f1.cell? ⟨w.heap.size, 3, none⟩ = some (.slice (some ⟨b, o, none⟩) n pc) := HC7.out.cell 3
          have x3' : f1.cell? ⟨w.heap.size, 2 + 1, none⟩ = some (.slice (some ⟨b, o, none⟩) n pc) := HC7.out.cell 3
          have t0 : f1.cell? ⟨tb, 0, none⟩ = some (.int .i64 t) := HT1.out.cell 0
          go_upto_region 20 with fail
          obtain ⟨f2, hf2⟩ : ∃ zz, zz = f1.alloc (.cells #[.int .i64 (lo t), .int .i64 (hi t), .int .i64 (dm t), .int .i64 (ou t), .int .i64 (sp t)] 50) := ⟨_, rfl⟩
          have HX8 : Hid (Blk f2 f1.heap.size 50 #[.int .i64 (lo t), .int .i64 (hi t), .int .i64 (dm t), .int .i64 (ou t), .int .i64 (sp t)]) := Lib.hid (hf2 ▸ Blk.new _ _ _)
          have HT8 : Hid (Blk f2 tb 3 #[.int .i64 t]) := Lib.hid (hf2 ▸ HT1.out.alloc _)
          have HS8 : Hid (Blk f2 sb 41 #[.slice S n sc]) := Lib.hid (hf2 ▸ HS7.out.alloc _)
          have HC8 : Hid (Blk f2 w.heap.size 26 #[.int .i64 cp, .int .i64 st, .int .i64 fl, .slice (some ⟨b, o, none⟩) n pc]) := Lib.hid (hf2 ▸ HC7.out.alloc _)
          have HL8 : Hid (Blk f2 lb 28 #[.slice A1 (n + 1) (n + 1)]) := Lib.hid (hf2 ▸ HL7.out.alloc _)
          have HD8 : Hid (Below e5.heap.size e5 f2) := Lib.hid (hf2 ▸ HD7.out.alloc HD7.out.size _)
          rw [← hf2]
          clear hf2 HT1 HS7 HC7 HL7 HD7 p0 p1 p2 p3 p4 x3 x3' t0
          generalize f1.heap.size = xb at *
          clear f1
          have HRS : Hid (∀ W, Below e5.heap.size e5 W → Rd W W.heap.size S n (fun j => .int .i64 (X1 j))) := Lib.hid fun W h => (HS.out.below h).mono h.size
          go_wp2_with fail
          refine (HG1.out f2 true r tb xb sb sc S (.inl ⟨rfl, rfl⟩) (HE.out.trans (HD8.out.mono hz5)) (HRS.out _ HD8.out) HC8.out HT8.out HS8.out HX8.out HL8.out).mono ?_
          rintro e f3 ⟨rfl, hb⟩
          have HX9 := Lib.hid (HX8.out.below hb HX8.out.lt)
          have HT9 := Lib.hid (HT8.out.below hb HT8.out.lt)
          have HS9 := Lib.hid (HS8.out.below hb HS8.out.lt)
          have HC9 := Lib.hid (HC8.out.below hb HC8.out.lt)
          have HL9 := Lib.hid (HL8.out.below hb HL8.out.lt)
          have HD9 := Lib.hid (HD8.out.trans (hb.mono HD8.out.size))
          clear hb HX8 HT8 HS8 HC8 HL8 HD8
          clear f2
          have x2 : f3.cell? ⟨xb, 2, none⟩ = some (.int .i64 (dm t)) := HX9.out.cell 2
          have x2' : f3.cell? ⟨xb, 1 + 1, none⟩ = some (.int .i64 (dm t)) := HX9.out.cell 2
          have hwr : IntKind.i64.wrap (r - 1) = r - 1 := IntWalk.i64_in _ ⟨by omega, by omega⟩
          by_cases hdr : dm t < r
          · have hdd : decide (dm t < r) = true := by simpa using hdr
            have HDR := Lib.hid hdr
            clear hdr
            go_wp2_with fail
            refine (HG1.out f3 false (r - 1) tb xb sb sc S (.inr ⟨rfl, rfl, HDR.out⟩) (HE.out.trans (HD9.out.mono hz5)) (HRS.out _ HD9.out) HC9.out HT9.out HS9.out HX9.out HL9.out).mono ?_
            rintro e f4 ⟨rfl, hb⟩
            have HD10 := Lib.hid (HD9.out.trans (hb.mono HD9.out.size))
            clear hb
            go_wp2_with fail
            go_roundw
            case rel => exact ⟨t + 1, by omega, by go_num, HD10.out⟩
            case measure => simp [intOf]; omega
          · have hdd : decide (dm t < r) = false := by simpa using hdr
            clear hdr
            go_wp2_with fail
            go_roundw
            case rel => exact ⟨t + 1, by omega, by go_num, HD9.out⟩
            case measure => simp [intOf]; omega
end Go.Proofs.Ytnmocdfogdcliaa
