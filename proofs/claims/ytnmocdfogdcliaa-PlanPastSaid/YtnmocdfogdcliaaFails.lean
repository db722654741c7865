/- Contract of the closure in Firm. -/
import Derived.Test.YtnmocdfogdcliaaFirmModel
import Derived.Test.YtnmocdfogdcliaaApp
import Derived.Test.YtnmocdfogdcliaaRound
import Derived.Test.YtnmocdfogdcliaaProgA
namespace Go.Proofs.Ytnmocdfogdcliaa
open Go.RowKit

theorem info50 : (Try.prog.info? 50).map (fun i => (i.zero, i.size, i.bytes)) = some (some (.agg #[.int .i64 0, .int .i64 0, .int .i64 0, .int .i64 0, .int .i64 0]), 5, 40) := by kernel_rfl
theorem info_three {P : Program} {e : TypeId} {z : Value} {s b : Nat} (h : (P.info? e).map (fun i => (i.zero, i.size, i.bytes)) = some (some z, s, b)) : ∃ i, P.info? e = some i ∧ i.zero = some z ∧ i.size = s ∧ i.bytes = b := by
  obtain ⟨i, hi, hzz⟩ := Option.map_eq_some_iff.1 h
  simp only [Prod.mk.injEq] at hzz
  exact ⟨i, hi, hzz.1, hzz.2.1, hzz.2.2⟩
theorem own_empty {W : World} {g base : Nat} (hg : Blk W g 50 #[]) (hb : base ≤ g) : W.ownsRow base 50 5 (.slice (some ⟨g, 0, none⟩) 0 0) 0 [] :=
  ⟨by simp, .inr ⟨g, 0, #[], rfl, hb, hg, Nat.le_refl _, by unfold maxLen; omega, by simp, by simp⟩⟩
/-- the cells of n periods -/
def rowX (lo hi dm ou sp : Nat → Int) (n : Nat) : List Value := (List.range (n * 5)).map (psc lo hi dm ou sp)
theorem rowX_len {lo hi dm ou sp : Nat → Int} {n : Nat} : (rowX lo hi dm ou sp n).length = n * 5 := by simp [rowX]
theorem rowX_at {lo hi dm ou sp : Nat → Int} {n j : Nat} (h : j < n * 5) : (rowX lo hi dm ou sp n)[j]? = some (psc lo hi dm ou sp j) := by simp [rowX, h]
theorem psc_one (lo hi dm ou sp : Nat → Int) (j : Nat) : (psc lo hi dm ou sp j).oneCell' = true := by
  unfold psc
  split
  · rfl
  split
  · rfl
  split
  · rfl
  split
  · rfl
  · rfl
theorem rowX_one {lo hi dm ou sp : Nat → Int} {n : Nat} : ∀ u ∈ rowX lo hi dm ou sp n, u.oneCell' = true := by
  intro u hu
  simp only [rowX, List.mem_map] at hu
  obtain ⟨j, _, rfl⟩ := hu
  exact psc_one _ _ _ _ _ j
theorem rowX_new {W : World} {B : Nat} {A : Option Addr} {n : Nat} {lo hi dm ou sp : Nat → Int} (h : Rd W B A (n * 5) (psc lo hi dm ou sp)) : ∀ a, A = some a → ∀ j u, (rowX lo hi dm ou sp n)[j]? = some u → W.cell? (a.add j) = some u := by
  intro a ha j u hu
  subst ha
  have hj : j < n * 5 := by
    have h1 := (List.getElem?_eq_some_iff.1 hu).1
    rwa [rowX_len] at h1
  rw [rowX_at hj] at hu
  obtain ⟨b, off, e, _, hc⟩ := h (by omega)
  cases e
  rw [add_none, hc j hj]
  exact hu
theorem rowX_none {W : World} {B : Nat} {A : Option Addr} {n : Nat} {lo hi dm ou sp : Nat → Int} (h : Rd W B A (n * 5) (psc lo hi dm ou sp)) : A = none → n = 0 := by
  intro hA
  subst hA
  cases n with
  | zero => rfl
  | succ n =>
    obtain ⟨b, off, e, _⟩ := h (by omega)
    cases e
/-- a row of periods of the call's own, that may be written -/
def RowP (W : World) (base : Nat) (A : Option Addr) (n : Nat) (lo hi dm ou sp : Nat → Int) : Prop :=
  n = 0 ∨ ∃ g cur, A = some ⟨g, 0, none⟩ ∧ base ≤ g ∧ Blk W g 50 cur ∧ n * 5 ≤ cur.size ∧ ∀ j, j < n * 5 → cur[j]? = some (psc lo hi dm ou sp j)
theorem RowP.of_own {W : World} {base n c : Nat} {A : Option Addr} {lo hi dm ou sp : Nat → Int} (h : W.ownsRow base 50 5 (.slice A n c) n (rowX lo hi dm ou sp n)) : RowP W base A n lo hi dm ou sp := by
  rcases h.2 with ⟨_, h0⟩ | ⟨g, cap, cur, hv, hbg, hg, hle, _, hcs, htake⟩
  · exact .inl h0
  · injection hv with e1 e2 e3
    refine .inr ⟨g, cur, e1, hbg, hg, ?_, fun j hj => ?_⟩
    · rw [hcs]; exact Nat.mul_le_mul_right 5 hle
    · have h1 := rowX_at (lo := lo) (hi := hi) (dm := dm) (ou := ou) (sp := sp) hj
      rw [← htake] at h1
      rw [List.getElem?_take] at h1
      rw [if_pos hj] at h1
      simpa using h1
theorem RowP.rd {W : World} {base n : Nat} {A : Option Addr} {lo hi dm ou sp : Nat → Int} (h : RowP W base A n lo hi dm ou sp) : Rd W W.heap.size A (n * 5) (psc lo hi dm ou sp) := fun hm => by
  rcases h with h | ⟨g, cur, e, _, hb, _, hc⟩
  · omega
  · exact ⟨g, 0, e, hb.lt, fun j hj => by rw [hb.cell, Nat.zero_add]; exact hc j hj⟩
theorem RowP.below {W W' : World} {base n : Nat} {A : Option Addr} {lo hi dm ou sp : Nat → Int} (h : RowP W base A n lo hi dm ou sp) (hb : Below W.heap.size W W') : RowP W' base A n lo hi dm ou sp := by
  rcases h with h | ⟨g, cur, e, hbase, hg, hs, hc⟩
  · exact .inl h
  · exact .inr ⟨g, cur, e, hbase, hg.below hb hg.lt, hs, hc⟩
theorem RowP.far {W : World} {base n : Nat} {A : Option Addr} {lo hi dm ou sp : Nat → Int} (h : RowP W base A n lo hi dm ou sp) {p : Addr} (hp : p.block < base) (u : Value) : RowP (W.setCell p u) base A n lo hi dm ou sp := by
  rcases h with h | ⟨g, cur, e, hbase, hg, hs, hc⟩
  · exact .inl h
  · exact .inr ⟨g, cur, e, hbase, hg.far (by omega) u, hs, hc⟩
/-- the first k demands are the new ones -/
def dmx (N : Nat) (sh dm : Nat → Int) (k j : Nat) : Int := if j < k then mul N sh j else dm j
theorem dmx_zero (N : Nat) (sh dm : Nat → Int) : dmx N sh dm 0 = dm := by funext j; simp [dmx]
theorem RowP.set_ {W : World} {base n g k N : Nat} {cur : Array Value} {lo hi dm ou sp sh : Nat → Int} (hbase : base ≤ g) (hg : Blk W g 50 cur) (hs : n * 5 ≤ cur.size) (hc : ∀ j, j < n * 5 → cur[j]? = some (psc lo hi (dmx N sh dm k) ou sp j)) (hk : k < n) :
    RowP (W.setCell ⟨g, k * 5 + 2, none⟩ (.int .i64 (mul N sh k))) base (some ⟨g, 0, none⟩) n lo hi (dmx N sh dm (k + 1)) ou sp := by
  refine .inr ⟨g, _, rfl, hbase, hg.set_ (k * 5 + 2) _, by simpa using hs, fun j hj => ?_⟩
  by_cases e : j = k * 5 + 2
  · subst e
    rw [set_at _ (by omega), psc_2]
    simp [dmx]
  · rw [set_off _ (fun h => e h.symm), hc j hj]
    congr 1
    unfold psc
    split
    · rfl
    split
    · rfl
    split
    · rename_i h1 h2 h3
      have : (j / 5 < k) = (j / 5 < k + 1) := by
        apply propext
        constructor
        · intro h; omega
        · intro h; omega
      simp only [dmx, this]
    · rfl
theorem RowP.done {W : World} {base n N : Nat} {A : Option Addr} {lo hi dm ou sp sh : Nat → Int} (h : RowP W base A n lo hi (dmx N sh dm n) ou sp) : Rd W W.heap.size A (n * 5) (psc lo hi (mul N sh) ou sp) :=
  h.rd.congr fun j hj => by
    unfold psc
    have : j / 5 < n := by omega
    simp only [dmx, this, if_true]

set_option maxRecDepth 100000 in
set_option maxHeartbeats 8000000 in
theorem fails_44 {PA : Option Addr} {n pc : Nat} {cp st fl : Int} {lo hi dm ou sp : Nat → Int} (B N cb sb sc : Nat) (SA : Option Addr) (sh : Nat → Int) (w : World) (hN : N ≤ 1048576) (hn : n ≤ 64) (hsh : ∀ j, j < n → 0 ≤ sh j ∧ sh j ≤ 1048576) (hB : B ≤ w.heap.size) (hc : Blk w cb 26 #[.int .i64 cp, .int .i64 st, .int .i64 fl, .slice PA n pc]) (hs : Blk w sb 41 #[.slice SA n sc])
    (hr : Rd w B PA (n * 5) (psc lo hi dm ou sp)) (hf : Rd w B SA n (fun j => .int .i64 (sh j))) :
    Calls Try.prog 44 #[.int .i64 N, .pointer (some ⟨cb, 0, none⟩), .pointer (some ⟨sb, 0, none⟩)] w fun e w' => e = .returned (.bool (!frmB cp st fl n lo hi ou sp sh N)) ∧ Below w.heap.size w w' := by
  have HRD := Lib.hid hr
  have HF := Lib.hid hf
  have HC := Lib.hid hc
  have HS := Lib.hid hs
  have HSH := Lib.hid hsh
  have hclt := hc.lt
  have hslt := hs.lt
  have c0 : w.cell? ⟨cb, 0, none⟩ = some (.int .i64 cp) := hc.cell 0
  have c1 : w.cell? ⟨cb, 1, none⟩ = some (.int .i64 st) := hc.cell 1
  have c2 : w.cell? ⟨cb, 2, none⟩ = some (.int .i64 fl) := hc.cell 2
  have c3 : w.cell? ⟨cb, 3, none⟩ = some (.slice PA n pc) := hc.cell 3
  clear hr hf hc hs hsh
  have HFB0 : Hid (frmB cp st fl n lo hi ou sp sh N = (decide (chkE cp st fl n lo hi (mul N sh) ou sp = 0) && ri3 (rb cp fl n lo hi (mul N sh) ou sp 0).1 st (rb cp fl n lo hi (mul N sh) ou sp 0).2)) := Lib.hid rfl
  generalize frmB cp st fl n lo hi ou sp sh N = V at HFB0 ⊢
  go_enter Try.func44, Try.ntmps44
  go_upto_region 2 with fail
  obtain ⟨w1, hw1⟩ : ∃ zz, zz = w.alloc (.cells #[.int .i64 cp, .int .i64 st, .int .i64 fl, .slice PA n pc] 26) := ⟨_, rfl⟩
  have HD1 : Hid (Blk w1 w.heap.size 26 #[.int .i64 cp, .int .i64 st, .int .i64 fl, .slice PA n pc]) := Lib.hid (hw1 ▸ Blk.new _ _ _)
  have HB1 : Hid (Below w.heap.size w w1) := Lib.hid (hw1 ▸ below_alloc _ _)
  have HC1 := Lib.hid (HC.out.below HB1.out hclt)
  rw [← hw1]
  clear hw1 c0 c1 c2 c3
  have hdlt := HD1.out.lt
  have c3 : w1.cell? ⟨cb, 2 + 1, none⟩ = some (.slice PA n pc) := HC1.out.cell 3
  have c3' : w1.cell? ⟨cb, 3, none⟩ = some (.slice PA n pc) := HC1.out.cell 3
  have hcb1 : cb < w1.heap.size := HC1.out.lt
  obtain ⟨i50, hj, hj0, hj1, hj2⟩ := info_three info50
  have HNEW := Lib.hid (rowX_new ((HRD.out.below (HB1.out.mono hB)).alloc (w := w1) (by have := HB1.out.size; omega) (.cells #[] 50)))
  have HNON := Lib.hid (rowX_none HRD.out)
  have hnl := rowX_len (lo := lo) (hi := hi) (dm := dm) (ou := ou) (sp := sp) (n := n)
  have HONE := Lib.hid (rowX_one (lo := lo) (hi := hi) (dm := dm) (ou := ou) (sp := sp) (n := n))
  have HRX : Hid (∀ W A c, W.ownsRow w1.heap.size 50 5 (.slice A n c) n (rowX lo hi dm ou sp n) → RowP W w1.heap.size A n lo hi dm ou sp) := Lib.hid fun W A c h => RowP.of_own h
  generalize rowX lo hi dm ou sp n = news at HNEW hnl HONE HRX
  go_upto_region 3 with (at_builtin; refine wpList_append_any rfl _ _ 24 rfl w1.heap.size 50 i50 (.agg #[.int .i64 0, .int .i64 0, .int .i64 0, .int .i64 0, .int .i64 0]) 5 40 Try.underlying24 hj hj0 hj1 hj2 rfl (by decide) (.slice (some ⟨w1.heap.size, 0, none⟩) 0 0) 0 [] rfl (own_empty (Blk.new _ _ _) (Nat.le_refl _)) PA n pc news rfl hnl HNON.out HNEW.out HONE.out (by unfold maxLen; omega) (by omega) (by simp) ?_; intro va wa hown1 hgrow1 _; rw [Nat.zero_add, List.nil_append] at hown1; obtain ⟨Aa, cva, hva⟩ := own_form hown1; subst hva; have HDA := Lib.hid (blk_of_grown (HD1.out.alloc _) hgrow1 (fun e => (show w.heap.size ≠ w1.heap.size by omega) (Option.some.inj e).symm)); have HBA : Hid (Below w1.heap.size w1 wa) := Lib.hid ((below_alloc w1 (.cells #[] 50)).grown hgrow1 (by simp) (fun q e => Nat.le_of_eq (Option.some.inj e))); have ca3 : wa.cell? ⟨w.heap.size, 2 + 1, none⟩ = some (.slice PA n pc) := HDA.out.cell 3; have ca3' : wa.cell? ⟨w.heap.size, 3, none⟩ = some (.slice PA n pc) := HDA.out.cell 3; have fa3 := HDA.out.frozen 3; have HRA := Lib.hid (HRX.out _ _ _ hown1); clear hown1 hgrow1)
  obtain ⟨w2, hw2⟩ : ∃ zz, zz = wa.setCell ⟨w.heap.size, 2 + 1, none⟩ (.slice Aa n cva) := ⟨_, rfl⟩
  have HD2 : Hid (Blk w2 w.heap.size 26 #[.int .i64 cp, .int .i64 st, .int .i64 fl, .slice Aa n cva]) := Lib.hid (hw2 ▸ HDA.out.set_ 3 _)
  have HB2 : Hid (Below w.heap.size w w2) := Lib.hid (hw2 ▸ (HB1.out.trans (HBA.out.mono HB1.out.size)).setCell (by simp) _)
  have HR2 : Hid (RowP w2 w1.heap.size Aa n lo hi dm ou sp) := Lib.hid (hw2 ▸ HRA.out.far (by simpa using hdlt) _)
  have hz12 : w1.heap.size ≤ w2.heap.size := by have := HBA.out.size; rw [hw2]; simpa [World.setCell] using this
  rw [← hw2]
  clear hw2 ca3 ca3' fa3 HDA HBA HRA HC1 HD1 HB1 c3 c3' HNEW HNON HONE HRX hnl hj hj0 hj1 hj2
  clear wa
  generalize w1.heap.size = base at *
  have HC2 := Lib.hid (HC.out.below HB2.out hclt)
  have HS2 := Lib.hid (HS.out.below HB2.out hslt)
  have s0 : w2.cell? ⟨sb, 0, none⟩ = some (.slice SA n sc) := HS2.out.cell 0
  go_wp2_with fail
  clear s0
  go_loopw [6, 7, 16] (fun _ _ i wr => ∃ k : Nat, k ≤ n ∧ i = .int .i64 k ∧ Hid (Blk wr w.heap.size 26 #[.int .i64 cp, .int .i64 st, .int .i64 fl, .slice Aa n cva]) ∧ Hid (RowP wr base Aa n lo hi (dmx N sh dm k) ou sp) ∧ Below w.heap.size w wr ∧ base ≤ wr.heap.size) (fun _ _ i _ => n - (intOf i).toNat)
  case atStart => exact ⟨0, Nat.zero_le _, rfl, HD2, by rw [dmx_zero]; exact HR2, HB2.out, hz12⟩
  case round =>
    obtain ⟨k, hk, rfl, HDr, HRr, hb, hzr⟩ := hrel
    have HBr := Lib.hid hb
    clear hb
    by_cases hlt : k < n
    · have hlt' : (k : Int) < n := by omega
      rcases HRr.out with h0 | ⟨g, cur, e, hbase, hg, hsz, hcur⟩
      · omega
      subst e
      obtain ⟨b, o, e, _, hcs⟩ := HF.out.below (HBr.out.mono hB) (by omega)
      subst e
      have p0 : wr.cell? ⟨b, o + k, none⟩ = some (.int .i64 (sh k)) := hcs k hlt
      have hw1 : IntKind.i64.wrap ((N : Int) * sh k) = mul N sh k := by
        have h1 := HSH.out k hlt
        have h2 : (N : Int) * sh k ≤ 1048576 * 1048576 := Int.mul_le_mul (by omega) h1.2 h1.1 (by omega)
        have h3 : 0 ≤ (N : Int) * sh k := Int.mul_nonneg (by omega) h1.1
        exact IntWalk.i64_in _ ⟨by omega, by omega⟩
      have HRN := Lib.hid (RowP.set_ (sh := sh) (N := N) hbase hg hsz hcur hlt)
      have hd3 : wr.cell? ⟨w.heap.size, 2 + 1, none⟩ = some (.slice (some ⟨g, 0, none⟩) n cva) := HDr.out.cell 3
      have hd3' : wr.cell? ⟨w.heap.size, 3, none⟩ = some (.slice (some ⟨g, 0, none⟩) n cva) := HDr.out.cell 3
      have q0 : wr.cell? ⟨g, k * 5 + 2, none⟩ = some _ := (hg.cell _).trans (hcur (k * 5 + 2) (by omega))
      have q1 := hg.frozen (k * 5 + 2)
      have hgd : w.heap.size ≠ g := by omega
      have HDN := Lib.hid (HDr.out.far (p := ⟨g, k * 5 + 2, none⟩) hgd (.int .i64 (mul N sh k)))
      have HBN := Lib.hid (HBr.out.setCell (p := ⟨g, k * 5 + 2, none⟩) (show w.heap.size ≤ g by omega) (.int .i64 (mul N sh k)))
      clear hcs hcur hg HDr HRr
      generalize mul N sh k = mk at *
      generalize sh k = zk at *
      go_wp2_with fail
      go_roundw
      case rel => exact ⟨k + 1, by omega, by go_num, HDN, HRN, HBN.out, by simpa [World.setCell] using hzr⟩
      case measure => simp [intOf]; omega
    · have hkn : n = k := by omega
      subst hkn
      have HRN := Lib.hid HRr.out.done
      have HCr := Lib.hid (HC.out.below HBr.out hclt)
      clear HRr hlt
      have hdl := HDr.out.lt
      have hcl := HCr.out.lt
      have HFB := Lib.hid HFB0.out
      have HC14 : Hid (Calls Try.prog 14 #[.agg #[.int .i64 cp, .int .i64 st, .int .i64 fl, .slice Aa n cva]] wr.drew fun e w' => e = .returned (.int .i64 (chkE cp st fl n lo hi (mul N sh) ou sp)) ∧ Hid (Below wr.heap.size wr w') ∧
          w'.cell? ⟨w.heap.size, 0, none⟩ = some (.int .i64 cp) ∧ w'.cell? ⟨w.heap.size, 1, none⟩ = some (.int .i64 st) ∧ w'.cell? ⟨w.heap.size, 2, none⟩ = some (.int .i64 fl) ∧ w'.cell? ⟨w.heap.size, 3, none⟩ = some (.slice Aa n cva) ∧ w'.cell? ⟨cb, 1, none⟩ = some (.int .i64 st)) :=
        Lib.hid ((Check_14 (PA := Aa) (pc := cva) (cp := cp) (st := st) (fl := fl) wr.heap.size wr.drew (by omega) (by simp) (HRN.out.drew)).mono fun e w' h => by
          have hb : Below wr.heap.size wr w' := (Below.refl wr.heap.size wr).drew.trans h.2
          have y := HDr.out.below hb hdl
          exact ⟨h.1, Lib.hid hb, y.cell 0, y.cell 1, y.cell 2, y.cell 3, (HCr.out.below hb hcl).cell 1⟩)
      have HC33 : Hid (chkE cp st fl n lo hi (mul N sh) ou sp = 0 → ∀ W, Hid (Below wr.heap.size wr W) → Calls Try.prog 33 #[.agg #[.int .i64 cp, .int .i64 st, .int .i64 fl, .slice Aa n cva]] W fun e w' => ∃ b o A2, e = .returned (.agg #[.int .i64 cp, .int .i64 st, .int .i64 fl, .slice Aa n cva, .slice (some ⟨b, o, none⟩) (n + 1) (n + 1), .slice A2 n n]) ∧ Hid (Below wr.heap.size wr w') ∧
          w'.cell? ⟨cb, 1, none⟩ = some (.int .i64 st) ∧ w'.cell? ⟨b, o, none⟩ = some (.int .i64 (rb cp fl n lo hi (mul N sh) ou sp 0).1) ∧ w'.cell? ⟨b, o + 1, none⟩ = some (.int .i64 (rb cp fl n lo hi (mul N sh) ou sp 0).2)) :=
        Lib.hid fun h0 W hW => (solve_33 (PA := Aa) (pc := cva) (cp := cp) (st := st) (fl := fl) wr.heap.size W (good_of h0) hW.out.size (HRN.out.below hW.out)).mono fun e w' h => by
          obtain ⟨⟨A1, A2, e1, hr1, _⟩, hb1⟩ := h
          have hb : Below wr.heap.size wr w' := hW.out.trans (hb1.mono hW.out.size)
          obtain ⟨b, o, e2, _, p0, p1⟩ := rng_at hr1 (show 0 < n + 1 by omega)
          subst e2
          exact ⟨b, o, A2, e1, Lib.hid hb, (HCr.out.below hb hcl).cell 1, by simpa using p0, by simpa using p1⟩
      have d0 : wr.cell? ⟨w.heap.size, 0, none⟩ = some (.int .i64 cp) := HDr.out.cell 0
      have d1 : wr.cell? ⟨w.heap.size, 1, none⟩ = some (.int .i64 st) := HDr.out.cell 1
      have d2 : wr.cell? ⟨w.heap.size, 2, none⟩ = some (.int .i64 fl) := HDr.out.cell 2
      have d3 : wr.cell? ⟨w.heap.size, 3, none⟩ = some (.slice Aa n cva) := HDr.out.cell 3
      have d4 : wr.cell? ⟨cb, 1, none⟩ = some (.int .i64 st) := HCr.out.cell 1
      generalize rb cp fl n lo hi (mul N sh) ou sp 0 = R at HFB HC33
      generalize chkE cp st fl n lo hi (mul N sh) ou sp = CE at HFB HC14 HC33
      obtain ⟨R1, R2⟩ := R
      simp only at HC33
      go_upto_region 8 with fail
      by_cases h1 : CE = 0
      · have HC33b := Lib.hid (HC33.out h1)
        have h1e : (CE != 0) = false := by simpa using h1
        have hf := fun b o A2 u => field66 (.int .i64 cp) (.int .i64 st) (.int .i64 fl) (.slice Aa n cva) (some ⟨b, o, none⟩) A2 (n + 1) (n + 1) n n u
        have hn1 : (0 : Int) < (n : Int) + 1 := by omega
        have HFV : Hid (V = ri3 R1 st R2) := Lib.hid (by rw [HFB.out, h1]; simp)
        clear HFB HC33 h1
        go_region_with (first
          | (go_at_call 14; refine HC14.out.mono ?_; rintro e w' ⟨rfl, hbl, k0, k1, k2, k3, k4⟩)
          | (go_at_call 33; refine (HC33b.out _ hbl).mono ?_; rintro e w'' ⟨b, o, A2, rfl, hbl2, k5, k6, k7⟩)
          | (go_at_call 38; refine (has_38 _ _ _ _).mono ?_; rintro e w3 ⟨rfl, hb3⟩))
        all_goals
          go_wp2_with fail
          go_ret
          exact ⟨ret_bool (by rw [HFV.out]), HBr.out.trans ((hbl2.out.trans (hb3.mono hbl2.out.size)).mono HBr.out.size)⟩
      · have h1d : (CE == 0) = false := by simpa using h1
        have h1e : (CE != 0) = true := by simpa using h1
        have HFV : Hid (V = false) := Lib.hid (by rw [HFB.out]; simp [h1])
        clear HFB HC33
        refine wp_region_tail (fun _ => True) (fun _ => True) 14 15 (by kernel_rfl) ⟨trivial, trivial⟩ (fun _ => ?_)
        refine wpAnyT_one (T := fun _ => True) (i := 0) (by kernel_rfl) rfl (fun _ _ => ⟨fun _ => trivial, fun _ => trivial⟩) (fun K hK => ?_)
        go_simp
        refine hK.out _ _ trivial (fun _ => ?_)
        clear hK K
        refine wpAnyT_one (T := fun _ => True) (i := 1) (by kernel_rfl) rfl (fun _ _ => ⟨fun _ => trivial, fun _ => trivial⟩) (fun K hK => ?_)
        go_simp
        go_at_call 14
        refine HC14.out.mono ?_
        rintro e w' ⟨rfl, hbl, -⟩
        refine hK.out _ _ trivial (fun _ => ?_)
        clear hK K
        refine wpAnyT_one (T := fun _ => True) (i := 2) (by kernel_rfl) rfl (fun _ _ => ⟨fun _ => trivial, fun _ => trivial⟩) (fun K hK => ?_)
        go_simp
        refine hK.out _ _ trivial (fun _ => ?_)
        clear hK K
        refine wpAnyT_one (T := fun _ => True) (i := 3) (by kernel_rfl) rfl (fun _ _ => ⟨fun _ => trivial, fun _ => trivial⟩) (fun K hK => ?_)
        go_simp
        refine hK.out _ _ trivial (fun _ => ?_)
        clear hK K
        refine wpAnyT_takeB (i := 4) (v := undef) rfl (by kernel_rfl) (by kernel_rfl) (by kernel_rfl) (by kernel_rfl) (by kernel_rfl) (by decide) (by decide) (fun _ _ _ h => h) (Or.inr ⟨by kernel_rfl, rfl⟩) ⟨trivial, trivial⟩ ?_
        simp only [Act.put]
        refine wpAnyT_takeB (i := 5) (v := undef) rfl (by kernel_rfl) (by kernel_rfl) (by kernel_rfl) (by kernel_rfl) (by kernel_rfl) (by decide) (by decide) (fun _ _ _ h => h) (Or.inr ⟨by kernel_rfl, rfl⟩) ⟨trivial, trivial⟩ ?_
        simp only [Act.put]
        refine wpAnyT_takeB (i := 6) (v := undef) rfl (by kernel_rfl) (by kernel_rfl) (by kernel_rfl) (by kernel_rfl) (by kernel_rfl) (by decide) (by decide) (fun _ _ _ h => h) (Or.inr ⟨by kernel_rfl, rfl⟩) ⟨trivial, trivial⟩ ?_
        simp only [Act.put]
        refine wpAnyT_takeB (i := 7) (v := undef) rfl (by kernel_rfl) (by kernel_rfl) (by kernel_rfl) (by kernel_rfl) (by kernel_rfl) (by decide) (by decide) (fun _ _ _ h => h) (Or.inr ⟨by kernel_rfl, rfl⟩) ⟨trivial, trivial⟩ ?_
        simp only [Act.put]
        refine wpAnyT_takeB (i := 8) (v := undef) rfl (by kernel_rfl) (by kernel_rfl) (by kernel_rfl) (by kernel_rfl) (by kernel_rfl) (by decide) (by decide) (fun _ _ _ h => h) (Or.inr ⟨by kernel_rfl, rfl⟩) ⟨trivial, trivial⟩ ?_
        simp only [Act.put]
        refine wpAnyT_takeB (i := 9) (v := undef) rfl (by kernel_rfl) (by kernel_rfl) (by kernel_rfl) (by kernel_rfl) (by kernel_rfl) (by decide) (by decide) (fun _ _ _ h => h) (Or.inr ⟨by kernel_rfl, rfl⟩) ⟨trivial, trivial⟩ ?_
        simp only [Act.put]
        refine wpAnyT_takeB (i := 10) (v := undef) rfl (by kernel_rfl) (by kernel_rfl) (by kernel_rfl) (by kernel_rfl) (by kernel_rfl) (by decide) (by decide) (fun _ _ _ h => h) (Or.inr ⟨by kernel_rfl, rfl⟩) ⟨trivial, trivial⟩ ?_
        simp only [Act.put]
        refine wpAnyT_takeB (i := 11) (v := undef) rfl (by kernel_rfl) (by kernel_rfl) (by kernel_rfl) (by kernel_rfl) (by kernel_rfl) (by decide) (by decide) (fun _ _ _ h => h) (Or.inr ⟨by kernel_rfl, rfl⟩) ⟨trivial, trivial⟩ ?_
        simp only [Act.put]
        refine wpAnyT_takeB (i := 12) (v := undef) rfl (by kernel_rfl) (by kernel_rfl) (by kernel_rfl) (by kernel_rfl) (by kernel_rfl) (by decide) (by decide) (fun _ _ _ h => h) (Or.inr ⟨by kernel_rfl, rfl⟩) ⟨trivial, trivial⟩ ?_
        simp only [Act.put]
        refine wpAnyT_takeB (i := 13) (v := undef) rfl (by kernel_rfl) (by kernel_rfl) (by kernel_rfl) (by kernel_rfl) (by kernel_rfl) (by decide) (by decide) (fun _ _ _ h => h) (Or.inr ⟨by kernel_rfl, rfl⟩) ⟨trivial, trivial⟩ ?_
        simp only [Act.put]
        refine wpAnyT_one (T := fun _ => True) (i := 14) (by kernel_rfl) rfl (fun _ _ => ⟨fun _ => trivial, fun _ => trivial⟩) (fun K hK => ?_)
        go_simp
        refine hK.out _ _ trivial (fun _ => ?_)
        clear hK K
        refine wpAnyT_one (T := fun _ => True) (i := 15) (by kernel_rfl) rfl (fun _ _ => ⟨fun _ => trivial, fun _ => trivial⟩) (fun K hK => ?_)
        go_simp
        refine hK.out _ _ trivial (fun _ => ?_)
        clear hK K
        refine wpAnyT_done (by kernel_rfl) ?_
        go_wp2_with fail
        go_ret
        exact ⟨ret_bool (by rw [HFV.out]; rfl), HBr.out.trans (hbl.out.mono HBr.out.size)⟩
end Go.Proofs.Ytnmocdfogdcliaa
