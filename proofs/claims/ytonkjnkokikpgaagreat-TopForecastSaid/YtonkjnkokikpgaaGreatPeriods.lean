/- Contracts of ensembles' periods and of its iterator. -/
import Derived.Test.YtonkjnkokikpgaaGreatKeeps
import Derived.Test.YtonkjnkokikpgaaGreatStillIn
import Derived.Test.YtonkjnkokikpgaaGreatXseq
import Derived.Test.YtonkjnkokikpgaaGreatApart
import Derived.Test.YtonkjnkokikpgaaGreatApp
import Derived.Maps.OwnIn
import Derived.Sort.CutIn
import Derived.OwnWalk
namespace Go.Proofs.YtonkjnkokikpgaaGreat
open Go.RowKit

attribute [local go_sem] Oper.semAt_some

/-- what a round must leave alone: what lay below n₀, the ensemble and the function -/
def KpU (n₀ : Nat) (W W' : World) : Prop := Below n₀ W W' ∧ ∀ k t cs, (t = 40 ∨ t = 103) → Blk W k t cs → Blk W' k t cs
theorem KpU.refl {n₀ : Nat} (W : World) : KpU n₀ W W := ⟨Below.refl _ _, fun _ _ _ _ h => h⟩
theorem KpU.trans {n₀ : Nat} {A B C : World} (h : KpU n₀ A B) (k : KpU n₀ B C) : KpU n₀ A C := ⟨h.1.trans k.1, fun j t cs h1 h2 => k.2 j t cs h1 (h.2 j t cs h1 h2)⟩
/-- what may be handed out -/
def NxU (H n : Nat) (x : EnsF) (pre : List (Option Addr × Nat × Nat)) (y : Option Addr × Nat × Nat) (W : World) : Prop := (pre.length < 16 ∧ y.2.2 = pre.length) ∧ W.ownsRow H 3 1 (.slice y.1 n y.2.1) n (rowOf (fun i => x.mv i y.2.2) n)
def prv (n : Nat) (x : Option Addr × Nat × Nat) : Array Value := #[.slice x.1 n x.2.1]

set_option maxRecDepth 100000 in
theorem same_41 (a b : Int) (w : World) : Calls Tryz.prog 41 #[.int .i64 a, .int .i64 b] w fun e w' => e = .returned (.int .i64 b) ∧ w' = w := by
  go_enter Tryz.func41, Tryz.ntmps41
  go_wp2_with fail
  go_ret
  exact ⟨rfl, rfl⟩

set_option maxRecDepth 100000 in
set_option maxHeartbeats 1000000 in
theorem periods_in (m l tb fb n₀ H B n c : Nat) (bd mk : Int) (A : Option Addr) (x : EnsF) (hg : EGood n x) (hBn : B ≤ n₀) (J : List (Option Addr × Nat × Nat) → World → Prop)
    (W : World) (hn₀ : n₀ ≤ H ∧ H ≤ W.heap.size) (hJ : ∀ s A B, J s A → Below A.heap.size A B → J s B)
    (hY : ∀ pre y W1, J pre W1 → NxU H n x pre y W1 → YieldAt Fence.wide (m - 1) Tryz.prog l (prv n y) W1 fun e W' => e = .returned (.bool true) ∧ J (pre ++ [y]) W' ∧ KpU n₀ W1 W')
    (ht : Blk W tb 40 #[.int .i64 bd, .int .i64 mk, .slice A n c]) (hf : Blk W fb 103 #[.func (.func 41) #[] #[]]) (hr : EnsRd W B A n x) (h0 : J [] W) :
    CallsIn Fence.wide m Tryz.prog 81 #[.func (.yield l) #[] #[], .pointer (some ⟨tb, 0, none⟩), .pointer (some ⟨fb, 0, none⟩)] W fun e W' => (∃ v, e = .returned v) ∧ ∃ ys, ys.length = x.ml 0 ∧ J ys W' := by
  refine callsIn_of_wp Tryz.func81 rfl trivial ?_ rfl
  simp only [Tryz.ntmps81, List.size_toArray, List.length_cons, List.length_nil, Nat.reduceAdd, Nat.reduceSub, Array.replicate_succ, Array.replicate_zero, List.push_toArray, List.append_toArray, List.nil_append, List.cons_append]
  have HT := Lib.hid ht
  have HF := Lib.hid hf
  have HR := Lib.hid hr
  have HJ := Lib.hid hJ
  have HY := Lib.hid hY
  obtain ⟨i0, hif, hz0, hz1, hz2⟩ := info_parts info3
  obtain ⟨⟨hn1, hn64⟩, ⟨hl1, hl16⟩, hml⟩ := hg
  have HML := Lib.hid hml
  clear hml
  have hn0' : (0 : Int) < (n : Int) := by omega
  obtain ⟨ab, o, rfl, _, hc⟩ := hr.1 (by omega)
  have q0 : W.cell? ⟨ab, o, none⟩ = some (.slice (x.mA 0) (x.ml 0) (x.mc 0)) := hc 0 (by omega)
  have t2 : W.cell? ⟨tb, 2, none⟩ = some (.slice (some ⟨ab, o, none⟩) n c) := ht.cell 2
  have t2' : W.cell? ⟨tb, 1 + 1, none⟩ = some (.slice (some ⟨ab, o, none⟩) n c) := ht.cell 2
  clear ht hf hr hJ hc hY
  gi_wp2
  clear q0 t2 t2'
  gi_loopw [13] (fun q wr => ∃ (k : Nat) (pre : List (Option Addr × Nat × Nat)), k ≤ x.ml 0 ∧ q = .int .i64 k ∧ pre.length = k ∧ Hid (Blk wr tb 40 #[.int .i64 bd, .int .i64 mk, .slice (some ⟨ab, o, none⟩) n c]) ∧ Hid (Blk wr fb 103 #[.func (.func 41) #[] #[]]) ∧ Hid (EnsRd wr B (some ⟨ab, o, none⟩) n x) ∧ Hid (J pre wr) ∧ Hid (W.heap.size ≤ wr.heap.size)) (fun q _ => x.ml 0 - (intOf q).toNat)
  case atStart => exact ⟨0, [], Nat.zero_le _, rfl, rfl, HT, HF, HR, Lib.hid h0, Lib.hid (Nat.le_refl _)⟩
  case round =>
    clear HT HF HR h0
    obtain ⟨k, pre, hk, rfl, hpl, HT, HF, HR, HJ1, HZ1⟩ := hrel
    by_cases hlt : ¬ k < x.ml 0
    · have hlt' : ¬ (k : Int) < (x.ml 0 : Int) := by omega
      have HPL := Lib.hid hpl
      clear hpl
      gi_wp2
      go_end0
      exact ⟨⟨_, rfl⟩, pre, by have := HPL.out; omega, HJ1.out⟩
    have hlt : k < x.ml 0 := by omega
    have hlt' : (k : Int) < (x.ml 0 : Int) := by omega
    have HPL := Lib.hid hpl
    clear hpl
    have t2 : wr.cell? ⟨tb, 2, none⟩ = some (.slice (some ⟨ab, o, none⟩) n c) := HT.out.cell 2
    have t2' : wr.cell? ⟨tb, 1 + 1, none⟩ = some (.slice (some ⟨ab, o, none⟩) n c) := HT.out.cell 2
    obtain ⟨W2, hW2⟩ : ∃ z, z = wr := ⟨_, rfl⟩
    rw [← hW2]
    rw [← hW2] at HT HF HR HJ1 HZ1 t2 t2'
    clear hW2
    clear wr
    obtain ⟨f, hf⟩ : ∃ f : Nat → Int, f = fun i => x.mv i k := ⟨_, rfl⟩
    have HFF := Lib.hid hf
    clear hf
    gi_wp2
    clear t2 t2'
    gi_loopw [5, 19] (fun s5 q wr => ∃ i : Nat, i ≤ n ∧ q = .int .i64 i ∧ Hid (wr.ownsRow W2.heap.size 3 1 s5 i (rowOf f i)) ∧ Hid (Below W2.heap.size W2 wr)) (fun _ q _ => n - (intOf q).toNat)
    case atStart => exact ⟨0, Nat.zero_le _, rfl, Lib.hid (World.ownsRow_nil _ _ _ _), Lib.hid (Below.refl _ _)⟩
    case round =>
      obtain ⟨i, hi, rfl, HO, HB⟩ := hrel
      have HT2 := Lib.hid (HT.out.below HB.out HT.out.lt)
      have HF2 := Lib.hid (HF.out.below HB.out HF.out.lt)
      have HR2 := Lib.hid (HR.out.below (HB.out.mono (by have := HZ1.out; omega)))
      obtain ⟨A1, c1, hv1⟩ := own_form HO.out
      by_cases hli : ¬ i < n
      · have hli' : ¬ (i : Int) < (n : Int) := by omega
        have hin : i = n := by omega
        subst hin
        subst hv1
        obtain ⟨fn, tmps, assign, body, hy, hR⟩ := HY.out pre (A1, c1, k) wr (HJ.out _ _ _ HJ1.out HB.out) ⟨⟨by have := HPL.out; omega, HPL.out.symm⟩, by have h9 := own_weaken HO.out (Nat.le_trans hn₀.2 HZ1.out); rw [HFF.out] at h9; exact h9⟩
        dsimp only [prv] at hy
        gi_wp2
        refine ⟨fun h => (by cases h), hR.mono ?_⟩
        rintro e w6 ⟨rfl, hj6, hk6⟩
        have HJ6 := Lib.hid hj6
        have HT6 : Hid (Blk w6 tb 40 #[.int .i64 bd, .int .i64 mk, .slice (some ⟨ab, o, none⟩) i c]) := Lib.hid (hk6.2 _ _ _ (.inl rfl) HT2.out)
        have HF6 : Hid (Blk w6 fb 103 #[.func (.func 41) #[] #[]]) := Lib.hid (hk6.2 _ _ _ (.inr rfl) HF2.out)
        have HR6 := Lib.hid (HR2.out.below (hk6.1.mono hBn))
        have HZ6 : Hid (W.heap.size ≤ w6.heap.size) := Lib.hid (Nat.le_trans HZ1.out (Nat.le_trans HB.out.size hk6.1.size))
        clear hj6 hk6 hR hy HO HB HT2 HF2 HR2
        clear wr
        gi_wp2
        go_roundw
        case rel => exact ⟨k + 1, pre ++ [(A1, c1, k)], by omega, by go_num, by rw [List.length_append, HPL.out]; rfl, HT6, HF6, HR6, HJ6, HZ6⟩
        case measure => simp [intOf]; omega
      have hli : i < n := by omega
      have hli' : (i : Int) < (n : Int) := by omega
      subst hv1
      have hml := HML.out i hli
      obtain ⟨ab', o', e', _, hc⟩ := HR2.out.1 (by omega)
      injection e' with e'
      injection e' with e1 e2
      subst e1 e2
      have q1 : wr.cell? ⟨ab, o + i, none⟩ = some (.slice (x.mA i) (x.ml i) (x.mc i)) := hc i hli
      obtain ⟨mb, mo, hma, hmbB, hmc⟩ := (HR2.out.2 i hli).1 (by omega)
      have q2 : wr.cell? ⟨mb, mo + k, none⟩ = some (.int .i64 (f i)) := (hmc k (by omega)).trans (by rw [HFF.out])
      have hkl : (k : Int) < (x.ml i : Int) := by omega
      have hkl2 : k < x.ml i := by omega
      clear hc hmc hml
      generalize x.mA i = yA at *
      subst hma
      generalize x.ml i = yl at *
      generalize x.mc i = yc at *
      have f0 : wr.cell? ⟨fb, 0, none⟩ = some (.func (.func 41) #[] #[]) := HF2.out.cell 0
      have hrl : W2.heap.size ≤ wr.heap.size := HB.out.size
      have hmbW : mb < W2.heap.size := by have := HZ1.out; omega
      have HPR : Hid (∀ W', Below W2.heap.size W2 W' → W'.cell? ⟨fb, 0, none⟩ = some (.func (.func 41) #[] #[]) ∧ W'.cell? ⟨mb, mo + k, none⟩ = some (.int .i64 (f i))) := Lib.hid fun W' h => ⟨(HF.out.below h HF.out.lt).cell 0, (h.cell (p := ⟨mb, mo + k, none⟩) hmbW).trans ((HB.out.cell (p := ⟨mb, mo + k, none⟩) hmbW).symm.trans q2)⟩
      gi_upto_region 7 with fail
      refine wpIn_wide.2 ?_
      refine wp_region_tail (fun _ => True) (fun w' => w'.cell? ⟨fb, 0, none⟩ = some (.func (.func 41) #[] #[]) ∧ w'.cell? ⟨mb, mo + k, none⟩ = some (.int .i64 (f i))) 10 10 (by kernel_rfl) ⟨trivial, f0, q2⟩ (fun hHeld => ?_)
      refine wpAnyT_takeB (i := 0) (v := .slice A1 i c1) rfl (by kernel_rfl) (by kernel_rfl) (by kernel_rfl) (by kernel_rfl) (by kernel_rfl) (by decide) (by decide) (fun _ _ _ h => h) (Or.inl ⟨by kernel_rfl, ?_⟩) hHeld ?_
      · intro w' hSw
        obtain ⟨z0, z1⟩ := hSw
        go_simp
      refine wpAnyT_takeB (i := 1) (v := .func (.func 41) #[] #[]) rfl (by kernel_rfl) (by kernel_rfl) (by kernel_rfl) (by kernel_rfl) (by kernel_rfl) (by decide) (by decide) (fun _ _ _ h => h) (Or.inl ⟨by kernel_rfl, ?_⟩) hHeld ?_
      · intro w' hSw
        obtain ⟨z0, z1⟩ := hSw
        go_simp
      simp only [Act.put]
      refine wpAnyT_takeB (i := 2) (v := .int .i64 i) rfl (by kernel_rfl) (by kernel_rfl) (by kernel_rfl) (by kernel_rfl) (by kernel_rfl) (by decide) (by decide) (fun _ _ _ h => h) (Or.inl ⟨by kernel_rfl, ?_⟩) hHeld ?_
      · intro w' hSw
        obtain ⟨z0, z1⟩ := hSw
        go_simp
      refine wpAnyT_takeB (i := 3) (v := .slice (some ⟨mb, mo, none⟩) yl yc) rfl (by kernel_rfl) (by kernel_rfl) (by kernel_rfl) (by kernel_rfl) (by kernel_rfl) (by decide) (by decide) (fun _ _ _ h => h) (Or.inl ⟨by kernel_rfl, ?_⟩) hHeld ?_
      · intro w' hSw
        obtain ⟨z0, z1⟩ := hSw
        go_simp
      simp only [Act.put]
      refine wpAnyT_takeB (i := 4) (v := .int .i64 k) rfl (by kernel_rfl) (by kernel_rfl) (by kernel_rfl) (by kernel_rfl) (by kernel_rfl) (by decide) (by decide) (fun _ _ _ h => h) (Or.inl ⟨by kernel_rfl, ?_⟩) hHeld ?_
      · intro w' hSw
        obtain ⟨z0, z1⟩ := hSw
        go_simp
      refine wpAnyT_takeB (i := 5) (v := .pointer (some ⟨mb, mo + k, none⟩)) rfl (by kernel_rfl) (by kernel_rfl) (by kernel_rfl) (by kernel_rfl) (by kernel_rfl) (by decide) (by decide) (fun _ _ _ h => h) (Or.inl ⟨by kernel_rfl, ?_⟩) hHeld ?_
      · intro w' hSw
        obtain ⟨z0, z1⟩ := hSw
        go_simp
      simp only [Act.put]
      refine wpAnyT_takeB (i := 6) (v := .int .i64 (f i)) rfl (by kernel_rfl) (by kernel_rfl) (by kernel_rfl) (by kernel_rfl) (by kernel_rfl) (by decide) (by decide) (fun _ _ _ h => h) (Or.inl ⟨by kernel_rfl, ?_⟩) hHeld ?_
      · intro w' hSw
        obtain ⟨z0, z1⟩ := hSw
        go_simp
      simp only [Act.put]
      refine wpAnyT_one (T := fun w' => w'.cell? ⟨fb, 0, none⟩ = some (.func (.func 41) #[] #[]) ∧ w'.cell? ⟨mb, mo + k, none⟩ = some (.int .i64 (f i))) (i := 7) (by kernel_rfl) rfl (fun _ h => ⟨fun _ => trivial, fun _ => h⟩) (fun K hK => ?_)
      go_simp
      go_at_call 41
      refine (same_41 _ _ _).mono ?_
      rintro e d1 ⟨rfl, rfl⟩
      refine hK.out _ _ ⟨f0, q2⟩ (fun hH => ?_)
      clear hK K
      have HO2 : Hid (wr.drew.ownsRow W2.heap.size 3 1 (.slice A1 i c1) i (rowOf f i)) := Lib.hid HO.out.drew
      have HB2 : Hid (Below W2.heap.size W2 wr.drew) := Lib.hid HB.out.drew
      have hrl2 : W2.heap.size ≤ wr.drew.heap.size := hrl
      refine wpAnyT_one (T := fun w' => w'.cell? ⟨fb, 0, none⟩ = some (.func (.func 41) #[] #[]) ∧ w'.cell? ⟨mb, mo + k, none⟩ = some (.int .i64 (f i))) (i := 8) (by kernel_rfl) rfl (fun _ h => ⟨fun _ => trivial, fun _ => h⟩) (fun K hK => ?_)
      go_simp
      obtain ⟨d2, hd⟩ : ∃ zz, zz = (wr.alloc (.cells #[.int .i64 (f i)] 3)).drew := ⟨_, rfl⟩
      have hN2 : ∀ j u, [Value.int .i64 (f i)][j]? = some u → d2.cell? ((⟨wr.heap.size, 0, none⟩ : Addr).add j) = some u := by rw [hd]; exact cell_one_new wr _ _
      have hO2 : d2.ownsRow W2.heap.size 3 1 (.slice A1 i c1) i (rowOf f i) := by rw [hd]; exact (HO.out.alloc _).drew
      have hB2 : Below W2.heap.size W2 d2 := by rw [hd]; exact (HB.out.alloc hrl _).drew
      have hz : W2.heap.size ≤ d2.heap.size := hB2.size
      rw [← hd]
      clear hd
      refine hK.out _ _ (HPR.out _ hB2) (fun _ => ?_)
      clear hK K
      refine wpAnyT_one (T := fun w' => w'.cell? ⟨fb, 0, none⟩ = some (.func (.func 41) #[] #[]) ∧ w'.cell? ⟨mb, mo + k, none⟩ = some (.int .i64 (f i))) (i := 9) (by kernel_rfl) rfl (fun _ h => ⟨fun _ => trivial, fun _ => h⟩) (fun K hK => ?_)
      refine step_append_any rfl (.tmp 24) (.tmp 32) 36 rfl W2.heap.size 3 i0 (.int .i64 0) 1 8 Tryz.underlying36 hif hz0 hz1 hz2 rfl (by decide) (.slice A1 i c1) i (rowOf f i) rfl hO2 (some ⟨wr.heap.size, 0, none⟩) 1 1 [.int .i64 (f i)] rfl rfl (fun h => by cases h) (fun a ha => by cases ha; exact hN2) (by simp [Value.oneCell']) (by unfold maxLen; omega) (by omega) hz ?_
      intro v7 d3 hown1 hgrow _
      have HO3 : Hid (d3.ownsRow W2.heap.size 3 1 v7 (i + 1) (rowOf f (i + 1))) := Lib.hid (by rw [← rowOf_succ]; exact hown1)
      have HB3 : Hid (Below W2.heap.size W2 d3) := Lib.hid (hB2.grown hgrow hz (fun q e => (hO2.lt q e).1))
      refine hK.out _ _ (HPR.out _ HB3.out) (fun _ => ?_)
      clear hK K hown1 hgrow
      refine wpAnyT_one (T := fun _ => True) (i := 10) (by kernel_rfl) rfl (Ob.last (by kernel_rfl) (by kernel_rfl)) (fun K hK => ?_)
      go_simp
      refine hK.out _ _ trivial (fun _ => ?_)
      clear hK K
      refine wpAnyT_done (by kernel_rfl) ?_
      clear HO2 HB2 hO2 hB2 hN2 HO HB HPR hHeld
      gi_wp2
      go_roundw
      case rel => exact ⟨i + 1, by omega, by go_num, HO3, HB3⟩
      case measure => simp [intOf]; omega

/-- what the iterator hands out -/
theorem periods_seq (m tb fb n₀ B n c : Nat) (bd mk : Int) (A : Option Addr) (x : EnsF) (hg : EGood n x) (hBn : B ≤ n₀) (w : World) (hn₀ : n₀ ≤ w.heap.size)
    (ht : Blk w tb 40 #[.int .i64 bd, .int .i64 mk, .slice A n c]) (hf : Blk w fb 103 #[.func (.func 41) #[] #[]]) (hr : EnsRd w B A n x) :
    SeqX Fence.wide m Tryz.prog 81 #[.pointer (some ⟨tb, 0, none⟩), .pointer (some ⟨fb, 0, none⟩)] (prv n) (KpU n₀) (fun ys => ys.length = x.ml 0) (NxU w.heap.size n x) w := fun l J W hW hJ hY h0 =>
  periods_in m l tb fb n₀ w.heap.size B n c bd mk A x hg hBn J W ⟨hn₀, hW.size⟩ hJ hY (ht.below hW ht.lt) (hf.below hW hf.lt) (hr.below (hW.mono (by omega))) h0

set_option maxRecDepth 100000 in
theorem periods_61 (bd mk : Int) (A : Option Addr) (n c : Nat) (w : World) :
    Calls Tryz.prog 61 #[.agg #[.int .i64 bd, .int .i64 mk, .slice A n c], .func (.func 41) #[] #[]] w fun e w' => e = .returned (.func (.func 81) #[] #[.pointer (some ⟨w.heap.size, 0, none⟩), .pointer (some ⟨w.heap.size + 1, 0, none⟩)]) ∧
      Blk w' w.heap.size 40 #[.int .i64 bd, .int .i64 mk, .slice A n c] ∧ Blk w' (w.heap.size + 1) 103 #[.func (.func 41) #[] #[]] ∧ Below w.heap.size w w' := by
  go_enter Tryz.func61, Tryz.ntmps61
  go_wp2_with fail
  go_ret
  refine ⟨rfl, (Blk.new _ _ _).alloc _, ?_, ?_⟩
  · have h := Blk.new (w.alloc (.cells #[.int .i64 bd, .int .i64 mk, .slice A n c] 40)) 103 #[.func (.func 41) #[] #[]]
    rwa [World.size_alloc] at h
  · exact (below_alloc _ _).alloc (by simp) _
end Go.Proofs.YtonkjnkokikpgaaGreat
