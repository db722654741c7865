/- Contracts of backwards and of its iterator. -/
import Derived.Test.YtnmocdfogdcliaaNseq
import Derived.Test.YtnmocdfogdcliaaRound
import Derived.Test.YtnmocdfogdcliaaRefRelease2
import Derived.Sort.CutIn
namespace Go.Proofs.Ytnmocdfogdcliaa
open Go.RowKit

attribute [local go_sem] Oper.semAt_some

set_option maxRecDepth 100000 in
theorem backwards_47 (v0 v1 v2 v3 : Value) (w : World) :
    Calls Try.prog 47 #[.agg #[v0, v1, v2, v3]] w fun e w' => e = .returned (.func (.func 49) #[] #[.pointer (some ⟨w.heap.size, 0, none⟩), .pointer (some ⟨w.heap.size + 1, 0, none⟩)]) ∧
      Blk w' w.heap.size 26 #[v0, v1, v2, v3] ∧ Blk w' (w.heap.size + 1) 48 #[.int .i64 1, .int .i64 0] ∧ Below w.heap.size w w' := by
  go_enter Try.func47, Try.ntmps47
  go_wp2_with fail
  go_ret
  refine ⟨rfl, (Blk.new _ _ _).alloc _, ?_, ?_⟩
  · have h := Blk.new (w.alloc (.cells #[v0, v1, v2, v3] 26)) 48 #[.int .i64 1, .int .i64 0]
    rwa [World.size_alloc] at h
  · exact (below_alloc _ _).alloc (by simp) _

/-- what a round must leave alone: what lay below n₀, and all blocks but two -/
def KpR (n₀ ra rr : Nat) (W W' : World) : Prop := Below n₀ W W' ∧ ∀ k t cs, k ≠ ra → k ≠ rr → Blk W k t cs → Blk W' k t cs
theorem KpR.refl {n₀ ra rr : Nat} (W : World) : KpR n₀ ra rr W W := ⟨Below.refl _ _, fun _ _ _ _ _ h => h⟩
theorem KpR.trans {n₀ ra rr : Nat} {A B C : World} (h : KpR n₀ ra rr A B) (k : KpR n₀ ra rr B C) : KpR n₀ ra rr A C := ⟨h.1.trans k.1, fun j t cs h1 h2 h3 => k.2 j t cs h1 h2 (h.2 j t cs h1 h2 h3)⟩
theorem KpR.put {n₀ ra rr : Nat} {W : World} {l : Nat} {o o' : Obj} (hl : n₀ ≤ l) (h : W.heap[l]? = some o) (ho : o.isCells = false) : KpR n₀ ra rr W (W.putObj l o') :=
  ⟨(Below.refl _ W).trans ⟨rfl, rfl, rfl, by simp [World.putObj], fun k hk => World.putObj_heap_other (by omega)⟩, fun k t cs _ _ hb => by
    have hk : k ≠ l := fun e => by
      subst e
      rw [show W.heap[k]? = _ from hb] at h
      cases h
      cases ho
    unfold Blk at hb ⊢
    rw [World.putObj_heap_other hk]
    exact hb⟩

/-- the periods that come first, from the last one on -/
def dwn (n k : Nat) : List Nat := (List.range k).map fun j => n - 1 - j
theorem dwn_succ (n k : Nat) : dwn n k ++ [n - 1 - k] = dwn n (k + 1) := by simp [dwn, List.range_succ]
theorem dwn_len (n k : Nat) : (dwn n k).length = k := by simp [dwn]
/-- the values that are handed out -/
def bkv (a r : Nat → Int × Int) (t : Nat) : Array Value := #[.int .i64 t, .agg #[.int .i64 (a t).1, .int .i64 (a t).2, .int .i64 (r t).1, .int .i64 (r t).2]]
/-- what may remain after the release, by the robust stores -/
def rsr (cp fl : Int) (n : Nat) (lo hi dm ou sp : Nat → Int) (t : Nat) : Int × Int := rst cp lo hi sp t (rb cp fl n lo hi dm ou sp (t + 1))
/-- the stores ahead of a release, before those that are none are written (1, 0) -/
def st1 (cp d o : Int) (s : Int × Int) : Int × Int := if s.1 ≤ s.2 then (s.1 + d, min cp (s.2 + o)) else (1, 0)
def st2 (s : Int × Int) : Int × Int := if s.2 < s.1 then (1, 0) else s
theorem bef_st (cp : Int) (lo hi dm ou sp : Nat → Int) (t : Nat) (r : Int × Int) : bef cp lo hi dm ou sp t r = st2 (st1 cp (dm t) (ou t) (rst cp lo hi sp t r)) := by
  unfold bef rst st1 st2
  by_cases h1 : r.2 < r.1
  · simp [h1]
  · simp only [h1, if_false]
    by_cases h2 : kpH cp hi sp t r < kpL lo t r
    · have h3 : ¬ kpL lo t r ≤ kpH cp hi sp t r := by omega
      simp [h2, h3]
    · have h3 : kpL lo t r ≤ kpH cp hi sp t r := by omega
      simp only [h2, h3, if_true, if_false]
theorem two_new (w : World) (t : TypeId) (cs : Array Value) : Blk ((w.alloc (.cells cs t)).alloc (.cells cs t)).drew w.heap.size t cs ∧ Blk ((w.alloc (.cells cs t)).alloc (.cells cs t)).drew (w.heap.size + 1) t cs ∧ Below w.heap.size w ((w.alloc (.cells cs t)).alloc (.cells cs t)).drew := by
  refine ⟨((Blk.new w t cs).alloc _).drewN 1, ?_, (((below_alloc w _).alloc (by simp) _)).drew⟩
  have h := Blk.new (w.alloc (.cells cs t)) t cs
  rw [World.size_alloc] at h
  exact h.drewN 1

set_option maxRecDepth 100000 in
set_option maxHeartbeats 8000000 in
theorem back_in {PA : Option Addr} {n pc : Nat} {cp st fl : Int} {lo hi dm ou sp : Nat → Int} (m l cb nb n₀ ra rr B : Nat) (hg : Good cp fl n lo hi dm ou sp) (hBn : B ≤ n₀) (hnr : cb ≠ ra ∧ cb ≠ rr ∧ nb ≠ ra ∧ nb ≠ rr) (J : List Nat → World → Prop)
    (W : World) (hra : ra < W.heap.size) (hrr : rr < W.heap.size) (hn₀ : n₀ ≤ W.heap.size) (hJ : ∀ s A B, J s A → Below W.heap.size A B → J s B)
    (hY : ∀ pre t W1, J pre W1 → (t < n ∧ pre = dwn n (n - 1 - t)) → YieldAt Fence.wide (m - 1) Try.prog l (bkv (rsr cp fl n lo hi dm ou sp) (rb cp fl n lo hi dm ou sp) t) W1 fun e W' => e = .returned (.bool true) ∧ J (pre ++ [t]) W' ∧ KpR n₀ ra rr W1 W')
    (hc : Blk W cb 26 #[.int .i64 cp, .int .i64 st, .int .i64 fl, .slice PA n pc]) (hb : Blk W nb 48 #[.int .i64 1, .int .i64 0]) (hr : Rd W B PA (n * 5) (psc lo hi dm ou sp)) (h0 : J [] W) :
    CallsIn Fence.wide m Try.prog 49 #[.func (.yield l) #[] #[], .pointer (some ⟨cb, 0, none⟩), .pointer (some ⟨nb, 0, none⟩)] W fun e W' => (∃ v, e = .returned v) ∧ ∃ ys, ys = dwn n n ∧ J ys W' := by
  refine callsIn_of_wp Try.func49 rfl trivial ?_ rfl
  simp only [Try.ntmps49, List.size_toArray, List.length_cons, List.length_nil, Nat.reduceAdd, Nat.reduceSub, Array.replicate_succ, Array.replicate_zero, List.push_toArray, List.append_toArray, List.nil_append, List.cons_append]
  have HC := Lib.hid hc
  have HN := Lib.hid hb
  have HR := Lib.hid hr
  have HJ := Lib.hid hJ
  have HG := Lib.hid hg
  have c0 : W.cell? ⟨cb, 0, none⟩ = some (.int .i64 cp) := hc.cell 0
  have c2 : W.cell? ⟨cb, 1 + 1, none⟩ = some (.int .i64 fl) := hc.cell 2
  have c2' : W.cell? ⟨cb, 2, none⟩ = some (.int .i64 fl) := hc.cell 2
  have hclt0 := hc.lt
  have hnlt0 := hb.lt
  clear hb hr hJ hc
  gi_upto_region 1 with fail
  obtain ⟨U, hU⟩ : ∃ zz, zz = W.alloc (.cells #[.int .i64 fl, .int .i64 cp] 48) := ⟨_, rfl⟩
  have HVU : Hid (Blk U W.heap.size 48 #[.int .i64 fl, .int .i64 cp]) := Lib.hid (hU ▸ Blk.new _ _ _)
  have HBU : Hid (Below W.heap.size W U) := Lib.hid (hU ▸ below_alloc _ _)
  have HCU := Lib.hid (HC.out.below HBU.out HC.out.lt)
  have HNU := Lib.hid (HN.out.below HBU.out HN.out.lt)
  have HRU := Lib.hid (HR.out.below (HBU.out.mono (Nat.le_trans hBn hn₀)))
  have HJU := Lib.hid (HJ.out _ _ _ h0 HBU.out)
  have hzU := HBU.out.size
  rw [← hU]
  clear hU HC HN HR h0 c0 c2 c2' HBU
  have c3' : U.cell? ⟨cb, 3, none⟩ = some (.slice PA n pc) := HCU.out.cell 3
  have c3'' : U.cell? ⟨cb, 2 + 1, none⟩ = some (.slice PA n pc) := HCU.out.cell 3
  have h64 := hg.1
  have hwn : IntKind.i64.wrap ((n : Int) - 1) = n - 1 := IntWalk.i64_in _ ⟨by omega, by omega⟩
  gi_wp2
  clear c3' c3''
  gi_loopw [5] (fun q wr => ∃ (k : Nat) (v : Int), k ≤ n ∧ q = .int .i64 v ∧ v + 1 = k ∧ Hid (Blk wr W.heap.size 48 #[.int .i64 (rb cp fl n lo hi dm ou sp k).1, .int .i64 (rb cp fl n lo hi dm ou sp k).2]) ∧ Hid (Blk wr cb 26 #[.int .i64 cp, .int .i64 st, .int .i64 fl, .slice PA n pc]) ∧ Hid (Blk wr nb 48 #[.int .i64 1, .int .i64 0]) ∧ Hid (Rd wr B PA (n * 5) (psc lo hi dm ou sp)) ∧ Hid (J (dwn n (n - k)) wr) ∧ W.heap.size ≤ wr.heap.size) (fun q _ => (intOf q + 1).toNat)
  case atStart => exact ⟨n, (n : Int) - 1, Nat.le_refl _, rfl, by omega, by rw [rb_end]; exact HVU, HCU, HNU, HRU, by rw [Nat.sub_self]; exact HJU, hzU⟩
  case round =>
    clear HVU HCU HNU HRU HJU hzU
    clear U
    obtain ⟨k, v, hk, rfl, hv, HV1, HC1, HN1, HR1, HJ1, hz1⟩ := hrel
    cases k with
    | zero =>
      have hv0 : v = -1 := by omega
      subst hv0
      gi_wp2
      go_end0
      exact ⟨⟨_, rfl⟩, _, rfl, HJ1.out⟩
    | succ j =>
      obtain rfl : v = j := by omega
      clear hv
      obtain ⟨y0, y1, y2⟩ := HG.out.2.2.2 j (by omega)
      obtain ⟨b, o, e, hbB, p0, p1, p2, p3, p4⟩ := per_at HR1.out (show j < n by omega)
      subst e
      have c0 : wr.cell? ⟨cb, 0, none⟩ = some (.int .i64 cp) := HC1.out.cell 0
      have c3 : wr.cell? ⟨cb, 2 + 1, none⟩ = some (.slice (some ⟨b, o, none⟩) n pc) := HC1.out.cell 3
      have hj1 : (j : Int) < n := by omega
      have hj2 : j < n := by omega
      have HST : Hid (rb cp fl n lo hi dm ou sp j = st2 (st1 cp (dm j) (ou j) (rst cp lo hi sp j (rb cp fl n lo hi dm ou sp (j + 1))))) := Lib.hid ((rb_step hj2).trans (bef_st _ _ _ _ _ _ _ _))
      have HRS : Hid (rsr cp fl n lo hi dm ou sp j = rst cp lo hi sp j (rb cp fl n lo hi dm ou sp (j + 1))) := Lib.hid rfl
      have HYJ : Hid (∀ W1, J (dwn n (n - (j + 1))) W1 → YieldAt Fence.wide (m - 1) Try.prog l (bkv (rsr cp fl n lo hi dm ou sp) (rb cp fl n lo hi dm ou sp) j) W1 fun e W' => e = .returned (.bool true) ∧ J (dwn n (n - j)) W' ∧ KpR n₀ ra rr W1 W') := Lib.hid fun W1 h => by
        have h2 := hY (dwn n (n - (j + 1))) j W1 h ⟨hj2, by rw [show n - (j + 1) = n - 1 - j by omega]⟩
        have h3 : dwn n (n - (j + 1)) ++ [j] = dwn n (n - j) := by
          rw [show n - j = n - (j + 1) + 1 by omega, ← dwn_succ, show n - 1 - (n - (j + 1)) = j by omega]
        rw [h3] at h2
        exact h2
      have hok := rb_ok HG.out (j + 1) (by omega)
      have hwk : IntKind.i64.wrap ((j : Int) - 1) = j - 1 := IntWalk.i64_in _ ⟨by omega, by omega⟩
      generalize rb cp fl n lo hi dm ou sp (j + 1) = R at HV1 HST HRS hok
      obtain ⟨r1, r2⟩ := R
      simp only at HV1
      have HSA : Hid (r2 < r1 → rst cp lo hi sp j (r1, r2) = (1, 0)) := Lib.hid fun h => if_pos h
      have HSB : Hid (r1 ≤ r2 → (rst cp lo hi sp j (r1, r2)).1 = max 0 (r1 - lo j) ∧ (rst cp lo hi sp j (r1, r2)).2 = (if r2 = cp then cp + sp j else r2) - hi j) := Lib.hid fun h => by
        rw [rst, if_neg (by simp only; omega)]
        exact ⟨rfl, rfl⟩
      have hcpb := HG.out.2.1
      have hSb : 0 ≤ (rst cp lo hi sp j (r1, r2)).1 ∧ (rst cp lo hi sp j (r1, r2)).1 ≤ 1099511627776 ∧ -1099511627776 ≤ (rst cp lo hi sp j (r1, r2)).2 ∧ (rst cp lo hi sp j (r1, r2)).2 ≤ 2199023255552 := by
        rcases hok with he | ⟨k1, k2, k3⟩
        · injection he with e1 e2
          rw [HSA.out (by omega)]
          simp
        · simp only at k1 k2 k3
          obtain ⟨s1, s2⟩ := HSB.out k2
          rw [s1, s2]
          refine ⟨by omega, by omega, ?_, ?_⟩ <;> split <;> omega
      generalize rst cp lo hi sp j (r1, r2) = S at HST HRS HSA HSB hSb
      obtain ⟨L, H⟩ := S
      simp only at HSB hSb
      gi_upto_region 5 with fail
      obtain ⟨w1, hw1⟩ : ∃ zz, zz = wr.alloc (.cells #[.int .i64 (lo j), .int .i64 (hi j), .int .i64 (dm j), .int .i64 (ou j), .int .i64 (sp j)] 50) := ⟨_, rfl⟩
      have HX1 : Hid (Blk w1 wr.heap.size 50 #[.int .i64 (lo j), .int .i64 (hi j), .int .i64 (dm j), .int .i64 (ou j), .int .i64 (sp j)]) := Lib.hid (hw1 ▸ Blk.new _ _ _)
      have HB1 : Hid (Below wr.heap.size wr w1) := Lib.hid (hw1 ▸ below_alloc _ _)
      have HV2 := Lib.hid (HV1.out.below HB1.out HV1.out.lt)
      have HC2 := Lib.hid (HC1.out.below HB1.out HC1.out.lt)
      have HN2 := Lib.hid (HN1.out.below HB1.out HN1.out.lt)
      have HR2 := Lib.hid (HR1.out.below (HB1.out.mono (Nat.le_trans hBn (Nat.le_trans hn₀ hz1))))
      have HJ2 := Lib.hid (HJ.out _ _ _ HJ1.out (HB1.out.mono hz1))
      have hz2 : W.heap.size ≤ w1.heap.size := Nat.le_trans hz1 HB1.out.size
      rw [← hw1]
      have hxlt := HX1.out.lt
      have hvlt := HV2.out.lt
      clear hw1 HV1 HC1 HN1 HR1 HJ1 HB1 p0 p1 p2 p3 p4 c0 c3 hz1
      generalize wr.heap.size = xb at *
      clear wr
      have hnlt := HN2.out.lt
      have d0 : w1.cell? ⟨nb, 0, none⟩ = some (.int .i64 1) := HN2.out.cell 0
      have d1 : w1.cell? ⟨nb, 1, none⟩ = some (.int .i64 0) := HN2.out.cell 1
      gi_cut [7, 8] from 20 (fun s7 s8 wc => ∃ b7 b8, s7 = .pointer (some ⟨b7, 0, none⟩) ∧ s8 = .pointer (some ⟨b8, 0, none⟩) ∧ b7 ≠ b8 ∧ w1.heap.size ≤ b7 ∧ w1.heap.size ≤ b8 ∧ Hid (Blk wc b7 48 #[.int .i64 1, .int .i64 0]) ∧ Hid (Blk wc b8 48 #[.int .i64 1, .int .i64 0]) ∧ Hid (Below w1.heap.size w1 wc))
      case first =>
        gi_region
        all_goals
          gi_wp2
          gi_meet
          case rel =>
            obtain ⟨t1, t2, t3⟩ := two_new w1 48 #[.int .i64 1, .int .i64 0]
            first
              | exact ⟨_, _, rfl, rfl, by omega, by omega, by omega, Lib.hid t1, Lib.hid t2, Lib.hid t3⟩
              | exact ⟨_, _, rfl, rfl, by omega, by omega, by omega, Lib.hid t2, Lib.hid t1, Lib.hid t3⟩
      case rest =>
        obtain ⟨b7, b8, rfl, rfl, hne, h7, h8, H7, H8, HBL⟩ := hcut
        obtain ⟨w2, hyy⟩ : ∃ y, y = wc := ⟨_, rfl⟩
        subst hyy
        clear d0 d1
        have HV3 := Lib.hid (HV2.out.below HBL.out hvlt)
        have HC3 := Lib.hid (HC2.out.below HBL.out HC2.out.lt)
        have HN3 := Lib.hid (HN2.out.below HBL.out HN2.out.lt)
        have HX3 := Lib.hid (HX1.out.below HBL.out HX1.out.lt)
        have h7l := H7.out.lt
        have h8l := H8.out.lt
        have c0 : w2.cell? ⟨cb, 0, none⟩ = some (.int .i64 cp) := HC3.out.cell 0
        have d0 : w2.cell? ⟨nb, 0, none⟩ = some (.int .i64 1) := HN3.out.cell 0
        have d1 : w2.cell? ⟨nb, 1, none⟩ = some (.int .i64 0) := HN3.out.cell 1
        have v0 : w2.cell? ⟨W.heap.size, 0, none⟩ = some (.int .i64 r1) := HV3.out.cell 0
        have v1 : w2.cell? ⟨W.heap.size, 1, none⟩ = some (.int .i64 r2) := HV3.out.cell 1
        have x0 : w2.cell? ⟨xb, 0, none⟩ = some (.int .i64 (lo j)) := HX3.out.cell 0
        have x1 : w2.cell? ⟨xb, 1, none⟩ = some (.int .i64 (hi j)) := HX3.out.cell 1
        have x4 : w2.cell? ⟨xb, 4, none⟩ = some (.int .i64 (sp j)) := HX3.out.cell 4
        have q0 : w2.cell? ⟨b7, 0, none⟩ = some (.int .i64 1) := H7.out.cell 0
        have q1 : w2.cell? ⟨b7, 1, none⟩ = some (.int .i64 0) := H7.out.cell 1
        have f0 := H7.out.frozen 0
        have f1 := H7.out.frozen 1
        gi_upto_region 6 with fail
        gi_cut [33] from 20 (fun s33 wc => s33 = .bool (decide (r1 ≤ r2)) ∧ w2 = wc)
        case first =>
          rcases hok with he | ⟨k1, k2, k3⟩
          · injection he with e1 e2
            subst e1; subst e2
            gi_wp2
            gi_meet
            case rel => exact ⟨rfl, rfl⟩
          · simp only at k1 k2 k3
            have hd : decide (r1 ≤ r2) = true := by simpa using k2
            by_cases hr1 : r1 = 1
            · have hr2 : ¬ r2 = 0 := by omega
              gi_wp2
              gi_meet
              case rel => exact ⟨by rw [hd], rfl⟩
            · gi_wp2
              gi_meet
              case rel => exact ⟨by rw [hd], rfl⟩
        case rest =>
          obtain ⟨rfl, rfl⟩ := hcut
          generalize lo j = z0 at *
          generalize hi j = z1 at *
          generalize dm j = z2 at *
          generalize ou j = z3 at *
          generalize sp j = z4 at *
          gi_upto_if 33 with fail
          gi_cut [9] from 20 (fun _ wc => Hid (Blk wc b7 48 #[.int .i64 L, .int .i64 H]) ∧ Hid (Blk wc b8 48 #[.int .i64 1, .int .i64 0]) ∧ Hid (Below w1.heap.size w1 wc))
          case first =>
            rcases hok with he | ⟨k1, k2, k3⟩
            · injection he with e1 e2
              subst e1; subst e2
              have he := HSA.out (by omega)
              injection he with e1 e2
              subst e1; subst e2
              gi_wp2
              gi_meet
              case rel => exact ⟨H7, H8, HBL⟩
            · simp only at k1 k2 k3
              have hd : decide (r1 ≤ r2) = true := by simpa using k2
              rw [hd]
              obtain ⟨s1, s2⟩ := HSB.out k2
              have hw0 : IntKind.i64.wrap (r1 - z0) = r1 - z0 := IntWalk.i64_in _ ⟨by omega, by omega⟩
              by_cases g1 : r2 = cp
              · rw [if_pos g1] at s2
                subst g1
                have hw1 : IntKind.i64.wrap (r2 + z4) = r2 + z4 := IntWalk.i64_in _ ⟨by omega, by omega⟩
                have hw2 : IntKind.i64.wrap (r2 + z4 - z1) = r2 + z4 - z1 := IntWalk.i64_in _ ⟨by omega, by omega⟩
                by_cases g2 : z0 < r1
                · have e1 : L = r1 - z0 := by omega
                  subst e1; subst s2
                  clear HSA HSB HST HRS s1
                  gi_wp2
                  gi_meet
                  case rel => exact ⟨Lib.hid ((H7.out.set_ 0 _).set_ 1 _), Lib.hid ((H8.out.far (p := ⟨b7, 0, none⟩) (by simp; omega) _).far (p := ⟨b7, 1, none⟩) (by simp; omega) _), Lib.hid ((HBL.out.setCell (p := ⟨b7, 0, none⟩) (by simp; omega) _).setCell (p := ⟨b7, 1, none⟩) (by simp; omega) _)⟩
                · have e1 : L = 0 := by omega
                  subst e1; subst s2
                  clear HSA HSB HST HRS s1
                  gi_wp2
                  gi_meet
                  case rel => exact ⟨Lib.hid ((H7.out.set_ 0 _).set_ 1 _), Lib.hid ((H8.out.far (p := ⟨b7, 0, none⟩) (by simp; omega) _).far (p := ⟨b7, 1, none⟩) (by simp; omega) _), Lib.hid ((HBL.out.setCell (p := ⟨b7, 0, none⟩) (by simp; omega) _).setCell (p := ⟨b7, 1, none⟩) (by simp; omega) _)⟩
              · rw [if_neg g1] at s2
                have g1d : (r2 == cp) = false := by simpa using g1
                have hw2 : IntKind.i64.wrap (r2 - z1) = r2 - z1 := IntWalk.i64_in _ ⟨by omega, by omega⟩
                by_cases g2 : z0 < r1
                · have e1 : L = r1 - z0 := by omega
                  subst e1; subst s2
                  clear HSA HSB HST HRS s1
                  gi_wp2
                  gi_meet
                  case rel => exact ⟨Lib.hid ((H7.out.set_ 0 _).set_ 1 _), Lib.hid ((H8.out.far (p := ⟨b7, 0, none⟩) (by simp; omega) _).far (p := ⟨b7, 1, none⟩) (by simp; omega) _), Lib.hid ((HBL.out.setCell (p := ⟨b7, 0, none⟩) (by simp; omega) _).setCell (p := ⟨b7, 1, none⟩) (by simp; omega) _)⟩
                · have e1 : L = 0 := by omega
                  subst e1; subst s2
                  clear HSA HSB HST HRS s1
                  gi_wp2
                  gi_meet
                  case rel => exact ⟨Lib.hid ((H7.out.set_ 0 _).set_ 1 _), Lib.hid ((H8.out.far (p := ⟨b7, 0, none⟩) (by simp; omega) _).far (p := ⟨b7, 1, none⟩) (by simp; omega) _), Lib.hid ((HBL.out.setCell (p := ⟨b7, 0, none⟩) (by simp; omega) _).setCell (p := ⟨b7, 1, none⟩) (by simp; omega) _)⟩
          case rest =>
            clear c0 d0 d1 v0 v1 x0 x1 x4 q0 q1 f0 f1 HV3 HC3 HN3 HX3 H7 H8 HBL h7l h8l HSA HSB
            clear w2
            obtain ⟨H7, H8, HBL⟩ := hcut
            obtain ⟨w3, hyy⟩ : ∃ y, y = wc := ⟨_, rfl⟩
            subst hyy
            have h7l := H7.out.lt
            have h8l := H8.out.lt
            have HX4 := Lib.hid (HX1.out.below HBL.out HX1.out.lt)
            have HC4 := Lib.hid (HC2.out.below HBL.out HC2.out.lt)
            have q0 : w3.cell? ⟨b7, 0, none⟩ = some (.int .i64 L) := H7.out.cell 0
            have q1 : w3.cell? ⟨b7, 1, none⟩ = some (.int .i64 H) := H7.out.cell 1
            have c0 : w3.cell? ⟨cb, 0, none⟩ = some (.int .i64 cp) := HC4.out.cell 0
            have x2 : w3.cell? ⟨xb, 2, none⟩ = some (.int .i64 z2) := HX4.out.cell 2
            have x3 : w3.cell? ⟨xb, 3, none⟩ = some (.int .i64 z3) := HX4.out.cell 3
            have x2' : w3.cell? ⟨xb, 1 + 1, none⟩ = some (.int .i64 z2) := HX4.out.cell 2
            have x3' : w3.cell? ⟨xb, 2 + 1, none⟩ = some (.int .i64 z3) := HX4.out.cell 3
            have e0 : w3.cell? ⟨b8, 0, none⟩ = some (.int .i64 1) := H8.out.cell 0
            have e1 : w3.cell? ⟨b8, 1, none⟩ = some (.int .i64 0) := H8.out.cell 1
            have f0 := H8.out.frozen 0
            have f1 := H8.out.frozen 1
            have HS1 : Hid (st1 cp z2 z3 (L, H) = if L ≤ H then (L + z2, min cp (H + z3)) else (1, 0)) := Lib.hid rfl
            generalize st1 cp z2 z3 (L, H) = S1 at HST HS1
            obtain ⟨L1, H1⟩ := S1
            obtain ⟨hs0, hs1, hs2, hs3⟩ := hSb
            have hw1 : IntKind.i64.wrap (L + z2) = L + z2 := IntWalk.i64_in _ ⟨by omega, by omega⟩
            have hw2 : IntKind.i64.wrap (H + z3) = H + z3 := IntWalk.i64_in _ ⟨by omega, by omega⟩
            gi_upto_if 62 with fail
            gi_cut [9] from 20 (fun _ wc => Hid (Blk wc b7 48 #[.int .i64 L, .int .i64 H]) ∧ Hid (Blk wc b8 48 #[.int .i64 L1, .int .i64 H1]) ∧ Hid (Below w1.heap.size w1 wc))
            case first =>
              clear HST HRS
              by_cases g1 : L ≤ H
              · have h := HS1.out.trans (if_pos g1)
                injection h with k1 k2
                by_cases g2 : H + z3 < cp
                · have k3 : H1 = H + z3 := by omega
                  subst k1; subst k3
                  clear HS1 k2
                  gi_wp2
                  gi_meet
                  case rel => exact ⟨Lib.hid ((H7.out.far (p := ⟨b8, 0, none⟩) (by simp; omega) _).far (p := ⟨b8, 1, none⟩) (by simp; omega) _), Lib.hid ((H8.out.set_ 0 _).set_ 1 _), Lib.hid ((HBL.out.setCell (p := ⟨b8, 0, none⟩) (by simp; omega) _).setCell (p := ⟨b8, 1, none⟩) (by simp; omega) _)⟩
                · have k3 : H1 = cp := by omega
                  subst k1; subst k3
                  clear HS1 k2
                  gi_wp2
                  gi_meet
                  case rel => exact ⟨Lib.hid ((H7.out.far (p := ⟨b8, 0, none⟩) (by simp; omega) _).far (p := ⟨b8, 1, none⟩) (by simp; omega) _), Lib.hid ((H8.out.set_ 0 _).set_ 1 _), Lib.hid ((HBL.out.setCell (p := ⟨b8, 0, none⟩) (by simp; omega) _).setCell (p := ⟨b8, 1, none⟩) (by simp; omega) _)⟩
              · have h := HS1.out.trans (if_neg g1)
                injection h with k1 k2
                subst k1; subst k2
                have g1d : decide (L ≤ H) = false := by simpa using g1
                clear HS1
                gi_wp2
                gi_meet
                case rel => exact ⟨H7, H8, HBL⟩
            case rest =>
              clear c0 q0 q1 x2 x3 x2' x3' e0 e1 f0 f1 H7 H8 HBL h7l h8l HX4 HC4 HS1 hw1 hw2
              clear w3
              obtain ⟨H7, H8, HBL⟩ := hcut
              obtain ⟨w4, hyy⟩ : ∃ y, y = wc := ⟨_, rfl⟩
              subst hyy
              have h7l := H7.out.lt
              have h8l := H8.out.lt
              have HN4 := Lib.hid (HN2.out.below HBL.out HN2.out.lt)
              have d0 : w4.cell? ⟨nb, 0, none⟩ = some (.int .i64 1) := HN4.out.cell 0
              have d1 : w4.cell? ⟨nb, 1, none⟩ = some (.int .i64 0) := HN4.out.cell 1
              have e0 : w4.cell? ⟨b8, 0, none⟩ = some (.int .i64 L1) := H8.out.cell 0
              have e1 : w4.cell? ⟨b8, 1, none⟩ = some (.int .i64 H1) := H8.out.cell 1
              have f0 := H8.out.frozen 0
              have f1 := H8.out.frozen 1
              have HS2 : Hid (st2 (L1, H1) = if H1 < L1 then (1, 0) else (L1, H1)) := Lib.hid rfl
              generalize st2 (L1, H1) = S2 at HST HS2
              obtain ⟨L2, H2⟩ := S2
              gi_upto_if 82 with fail
              gi_cut [9] from 20 (fun _ wc => Hid (Blk wc b7 48 #[.int .i64 L, .int .i64 H]) ∧ Hid (Blk wc b8 48 #[.int .i64 L2, .int .i64 H2]) ∧ Hid (Below w1.heap.size w1 wc))
              case first =>
                clear HST HRS
                by_cases g1 : H1 < L1
                · have h := HS2.out.trans (if_pos g1)
                  injection h with k1 k2
                  subst k1; subst k2
                  clear HS2
                  gi_wp2
                  gi_meet
                  case rel => exact ⟨Lib.hid ((H7.out.far (p := ⟨b8, 0, none⟩) (by simp; omega) _).far (p := ⟨b8, 1, none⟩) (by simp; omega) _), Lib.hid ((H8.out.set_ 0 _).set_ 1 _), Lib.hid ((HBL.out.setCell (p := ⟨b8, 0, none⟩) (by simp; omega) _).setCell (p := ⟨b8, 1, none⟩) (by simp; omega) _)⟩
                · have h := HS2.out.trans (if_neg g1)
                  injection h with k1 k2
                  subst k1; subst k2
                  have g1d : decide (H2 < L2) = false := by simpa using g1
                  clear HS2
                  gi_wp2
                  gi_meet
                  case rel => exact ⟨H7, H8, HBL⟩
              case rest =>
                clear d0 d1 e0 e1 f0 f1 H7 H8 HBL h7l h8l HN4 HS2
                clear w4
                obtain ⟨H7, H8, HBL⟩ := hcut
                obtain ⟨w5, hyy⟩ : ∃ y, y = wc := ⟨_, rfl⟩
                subst hyy
                have h7l := H7.out.lt
                have h8l := H8.out.lt
                have q0 : w5.cell? ⟨b7, 0, none⟩ = some (.int .i64 L) := H7.out.cell 0
                have q1 : w5.cell? ⟨b7, 1, none⟩ = some (.int .i64 H) := H7.out.cell 1
                have e0 : w5.cell? ⟨b8, 0, none⟩ = some (.int .i64 L2) := H8.out.cell 0
                have e1 : w5.cell? ⟨b8, 1, none⟩ = some (.int .i64 H2) := H8.out.cell 1
                obtain ⟨fn, tmps, assign, body, hy, hR⟩ := HYJ.out w5 (HJ.out _ _ _ HJ2.out (HBL.out.mono hz2))
                have hkv : bkv (rsr cp fl n lo hi dm ou sp) (rb cp fl n lo hi dm ou sp) j = #[.int .i64 j, .agg #[.int .i64 L, .int .i64 H, .int .i64 L2, .int .i64 H2]] := by
                  unfold bkv
                  rw [HRS.out, HST.out]
                rw [hkv] at hy
                gi_wp2
                refine ⟨fun h => (by cases h), hR.mono ?_⟩
                rintro e w6 ⟨rfl, hj6, hk6⟩
                have HJ6 := Lib.hid hj6
                have hb8a : b8 ≠ ra := by omega
                have hb8b : b8 ≠ rr := by omega
                have hva : W.heap.size ≠ ra := by omega
                have hvb : W.heap.size ≠ rr := by omega
                have H86 : Hid (Blk w6 b8 48 #[.int .i64 L2, .int .i64 H2]) := Lib.hid (hk6.2 _ _ _ hb8a hb8b H8.out)
                have HV6 : Hid (Blk w6 W.heap.size 48 #[.int .i64 r1, .int .i64 r2]) := Lib.hid (hk6.2 _ _ _ hva hvb (HV2.out.below HBL.out hvlt))
                have HC6 := Lib.hid (hk6.2 _ _ _ hnr.1 hnr.2.1 (HC2.out.below HBL.out HC2.out.lt))
                have HN6 := Lib.hid (hk6.2 _ _ _ hnr.2.2.1 hnr.2.2.2 (HN2.out.below HBL.out hnlt))
                have HR6 := Lib.hid (((HR2.out.below (HBL.out.mono (by omega))).below (hk6.1.mono hBn)))
                have hz6 : W.heap.size < w6.heap.size := HV6.out.lt
                have H86lt := H86.out.lt
                clear hj6 hk6 hR hy hkv HYJ q0 q1 e0 e1 H7 H8 HV2 HC2 HN2 HR2 HX1 HJ2 HBL h7l h8l
                clear w5
                have e0 : w6.cell? ⟨b8, 0, none⟩ = some (.int .i64 L2) := H86.out.cell 0
                have e1 : w6.cell? ⟨b8, 1, none⟩ = some (.int .i64 H2) := H86.out.cell 1
                have v0 : w6.cell? ⟨W.heap.size, 0, none⟩ = some (.int .i64 r1) := HV6.out.cell 0
                have v1 : w6.cell? ⟨W.heap.size, 1, none⟩ = some (.int .i64 r2) := HV6.out.cell 1
                have f0 := HV6.out.frozen 0
                have f1 := HV6.out.frozen 1
                gi_wp2
                have HV7 := Lib.hid ((HV6.out.set_ 0 (.int .i64 L2)).set_ 1 (.int .i64 H2))
                have hcv : cb ≠ W.heap.size := by omega
                have hnv : nb ≠ W.heap.size := by omega
                have HC7 := Lib.hid ((HC6.out.far (p := ⟨W.heap.size, 0, none⟩) hcv (.int .i64 L2)).far (p := ⟨W.heap.size, 1, none⟩) hcv (.int .i64 H2))
                have HN7 := Lib.hid ((HN6.out.far (p := ⟨W.heap.size, 0, none⟩) hnv (.int .i64 L2)).far (p := ⟨W.heap.size, 1, none⟩) hnv (.int .i64 H2))
                have hb7 : Below W.heap.size w6 ((w6.setCell ⟨W.heap.size, 0, none⟩ (.int .i64 L2)).setCell ⟨W.heap.size, 1, none⟩ (.int .i64 H2)) := ((Below.refl _ _).setCell (p := ⟨W.heap.size, 0, none⟩) (by simp) _).setCell (p := ⟨W.heap.size, 1, none⟩) (by simp) _
                have HR7 := Lib.hid (HR6.out.below (hb7.mono (by omega)))
                have HJ7 := Lib.hid (HJ.out _ _ _ HJ6.out hb7)
                have hz7 := hb7.size
                go_roundw
                case rel => exact ⟨j, (j : Int) - 1, by omega, by go_num, by omega, by rw [HST.out]; exact HV7, HC7, HN7, HR7, HJ7, by omega⟩
                case measure => simp [intOf]

/-- what the iterator hands out -/
theorem back_seq {PA : Option Addr} {n pc : Nat} {cp st fl : Int} {lo hi dm ou sp : Nat → Int} (m cb nb n₀ ra rr B : Nat) (hg : Good cp fl n lo hi dm ou sp) (hBn : B ≤ n₀) (hnr : cb ≠ ra ∧ cb ≠ rr ∧ nb ≠ ra ∧ nb ≠ rr) (w : World) (hra : ra < w.heap.size) (hrr : rr < w.heap.size) (hn₀ : n₀ ≤ w.heap.size)
    (hc : Blk w cb 26 #[.int .i64 cp, .int .i64 st, .int .i64 fl, .slice PA n pc]) (hb : Blk w nb 48 #[.int .i64 1, .int .i64 0]) (hr : Rd w B PA (n * 5) (psc lo hi dm ou sp)) :
    SeqN Fence.wide m Try.prog 49 #[.pointer (some ⟨cb, 0, none⟩), .pointer (some ⟨nb, 0, none⟩)] (bkv (rsr cp fl n lo hi dm ou sp) (rb cp fl n lo hi dm ou sp)) (KpR n₀ ra rr) (fun ys => ys = dwn n n) (fun pre t => t < n ∧ pre = dwn n (n - 1 - t)) w := fun l J W hW hJ hY h0 =>
  back_in m l cb nb n₀ ra rr B hg hBn hnr J W (by have := hW.size; omega) (by have := hW.size; omega) (by have := hW.size; omega) hJ hY (hc.below hW hc.lt) (hb.below hW hb.lt) (hr.below (hW.mono (by omega))) h0
end Go.Proofs.Ytnmocdfogdcliaa
