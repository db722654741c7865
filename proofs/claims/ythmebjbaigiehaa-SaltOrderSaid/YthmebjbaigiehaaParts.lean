/- Contracts of parts and of its iterator. -/
import Derived.Test.YthmebjbaigiehaaLose
import Derived.Test.YthmebjbaigiehaaVseq
import Derived.Test.YthmebjbaigiehaaRound
import Derived.Laws.EntriesVeiled
namespace Go.Proofs.Ythmebjbaigiehaa
open Go.RowKit

attribute [local go_sem] Oper.semAt_some

set_option maxRecDepth 100000 in
set_option maxHeartbeats 2000000 in
theorem parts_32 (L S : Int) (A : Option Addr) (n c : Nat) (w : World) :
    Calls Try.prog 32 #[.agg #[.int .i64 L, .int .i64 S], .slice A n c] w fun e w' => ∃ sb vb fb, w.heap.size ≤ sb ∧ w.heap.size ≤ vb ∧ w.heap.size ≤ fb ∧ sb ≠ vb ∧ sb ≠ fb ∧ vb ≠ fb ∧ e = .returned (.func (.func 34) #[] #[.pointer (some ⟨sb, 0, none⟩), .pointer (some ⟨fb, 0, none⟩)]) ∧
      Blk w' sb 32 #[.slice A n c] ∧ Blk w' vb 56 #[.int .i64 L, .int .i64 S, .int .i64 0, .int .i64 0] ∧ Blk w' fb 57 #[.func (.func 28) #[.pointer (some ⟨vb, 0, none⟩)] #[]] ∧ Below w.heap.size w w' := by
  go_enter Try.func32, Try.ntmps32
  go_wp2_with fail
  go_ret
  refine ⟨w.heap.size + 1, w.heap.size + 1 + 1, w.heap.size + 1 + 1 + 1, by omega, by omega, by omega, by omega, by omega, by omega, rfl, ?_, ?_, ?_, ?_⟩
  · have h := Blk.new (w.alloc (.cells #[.int .i64 L, .int .i64 S] 24)) 32 #[.slice A n c]
    rw [World.size_alloc] at h
    exact (h.alloc _).alloc _
  · have h := Blk.new ((w.alloc (.cells #[.int .i64 L, .int .i64 S] 24)).alloc (.cells #[.slice A n c] 32)) 56 #[.int .i64 L, .int .i64 S, .int .i64 0, .int .i64 0]
    rw [World.size_alloc, World.size_alloc] at h
    exact h.alloc _
  · have h := Blk.new (((w.alloc (.cells #[.int .i64 L, .int .i64 S] 24)).alloc (.cells #[.slice A n c] 32)).alloc (.cells #[.int .i64 L, .int .i64 S, .int .i64 0, .int .i64 0] 56)) 57 #[.func (.func 28) #[.pointer (some ⟨w.heap.size + 1 + 1, 0, none⟩)] #[]]
    rw [World.size_alloc, World.size_alloc, World.size_alloc] at h
    exact h
  · (repeat (first | exact Below.refl _ _ | exact below_alloc _ _ | refine Below.alloc ?_ (by simp; omega) _ | refine Below.alloc ?_ (by simp) _))

/-- what a round must leave alone: what lay below n₀, and three blocks more -/
def KpV (n₀ sb vb fb : Nat) (W W' : World) : Prop := Below n₀ W W' ∧ W'.heap[sb]? = W.heap[sb]? ∧ W'.heap[vb]? = W.heap[vb]? ∧ W'.heap[fb]? = W.heap[fb]?
theorem KpV.refl {n₀ sb vb fb : Nat} (W : World) : KpV n₀ sb vb fb W W := ⟨Below.refl _ _, rfl, rfl, rfl⟩
theorem KpV.trans {n₀ sb vb fb : Nat} {A B C : World} (h : KpV n₀ sb vb fb A B) (k : KpV n₀ sb vb fb B C) : KpV n₀ sb vb fb A C := ⟨h.1.trans k.1, k.2.1.trans h.2.1, k.2.2.1.trans h.2.2.1, k.2.2.2.trans h.2.2.2⟩

/-- the salt that is taken with the first k parts -/
def splT (L S : Int) (P : Nat → Int) (k : Nat) : Int := if 0 < L then S * sm P k / L else 0
theorem splT_zero (L S : Int) (P : Nat → Int) : splT L S P 0 = 0 := by simp [splT, sm]
theorem splT_succ {L S : Int} {P : Nat → Int} (k : Nat) : tkA L S (sm P k) (splT L S P k) (P k) = splT L S P (k + 1) := by
  unfold tkA splT
  split <;> simp [sm]
theorem splS_eq (L S : Int) (P : Nat → Int) (k : Nat) : splS L S P k = splT L S P (k + 1) - splT L S P k := by
  unfold splS splT
  split <;> simp
/-- the parts, in order -/
def splL (L S : Int) (P : Nat → Int) (k : Nat) : List (Int × Int) := (List.range k).map fun j => (P j, splS L S P j)
theorem splL_succ (L S : Int) (P : Nat → Int) (k : Nat) : splL L S P k ++ [(P k, splS L S P k)] = splL L S P (k + 1) := by simp [splL, List.range_succ]
theorem splL_length (L S : Int) (P : Nat → Int) (k : Nat) : (splL L S P k).length = k := by simp [splL]

/-- how many rounds are left, by the index -/
def left8 (n : Nat) : Value → Nat
  | .int _ i => n - i.toNat
  | _ => 0
theorem left8_int (n : Nat) (i : Int) : left8 n (.int .i64 i) = n - i.toNat := rfl

set_option maxRecDepth 100000 in
set_option maxHeartbeats 2000000 in
theorem parts1_in (m : Nat) (l sb vb fb n₀ : Nat) (L S : Int) (P : Nat → Int) (A : Option Addr) (n c B : Nat) (hL : 0 ≤ L ∧ L ≤ 1073741824) (hS : 0 ≤ S ∧ S ≤ 1073741824) (hP : ∀ k, k < n → 0 ≤ P k ∧ P k ≤ 1073741824) (hsum : sm P n = L) (hn : n ≤ 64)
    (hsv : sb ≠ vb) (hfv : fb ≠ vb) (hnv : n₀ ≤ vb) (hBn : B ≤ n₀) (J : List (Int × Int) → World → Prop) (hJ : ∀ s A B, J s A → A.grownBy B (some vb) → J s B)
    (hY : ∀ pre x W, J pre W → pre.length < n → YieldAt Fence.wide (m - 1) Try.prog l #[.agg #[.int .i64 x.1, .int .i64 x.2]] W fun e W' => e = .returned (.bool true) ∧ J (pre ++ [x]) W' ∧ KpV n₀ sb vb fb W W')
    (W : World) (hs : Blk W sb 32 #[.slice A n c]) (hv : Blk W vb 56 #[.int .i64 L, .int .i64 S, .int .i64 0, .int .i64 0]) (hfb : Blk W fb 57 #[.func (.func 28) #[.pointer (some ⟨vb, 0, none⟩)] #[]]) (hr : Rd W B A n fun k => .int .i64 (P k)) (h0 : J [] W) :
    CallsIn Fence.wide m Try.prog 34 #[.func (.yield l) #[] #[], .pointer (some ⟨sb, 0, none⟩), .pointer (some ⟨fb, 0, none⟩)] W fun e W' => (∃ v, e = .returned v) ∧ ∃ xs, xs = splL L S P n ∧ J xs W' := by
  refine callsIn_of_wp Try.func34 rfl trivial ?_ rfl
  simp only [Try.ntmps34, List.size_toArray, List.length_cons, List.length_nil, Nat.reduceAdd, Nat.reduceSub, Array.replicate_succ, Array.replicate_zero, List.push_toArray, List.append_toArray, List.nil_append, List.cons_append]
  have HS := Lib.hid hs
  have HV := Lib.hid hv
  have HF := Lib.hid hfb
  have HR := Lib.hid hr
  have cs : W.cell? ⟨sb, 0, none⟩ = some (.slice A n c) := hs.cell 0
  clear hs hv hfb hr
  gi_wp2
  refine wpIn_loop (fun a w => ∃ (k : Nat) (u5 u9 u10 u11 u12 u13 u14 u15 u16 u17 u18 : Value), k ≤ n ∧ a = { tmps := #[.func (.yield l) #[] #[], .pointer (some ⟨sb, 0, none⟩), .pointer (some ⟨fb, 0, none⟩), undef, undef, u5, .slice A n c, .int .i64 n, .int .i64 k, u9, u10, u11, u12, u13, u14, u15, u16, u17, u18], defers := [] } ∧
    Blk w sb 32 #[.slice A n c] ∧ Blk w vb 56 #[.int .i64 L, .int .i64 S, .int .i64 (sm P k), .int .i64 (splT L S P k)] ∧ Blk w fb 57 #[.func (.func 28) #[.pointer (some ⟨vb, 0, none⟩)] #[]] ∧ (Rd w B A n fun k => .int .i64 (P k)) ∧ J (splL L S P k) w)
    (fun a _ => left8 n (a.tmps.getD 8 undef)) ⟨0, undef, undef, undef, undef, undef, undef, undef, undef, undef, undef, undef, Nat.zero_le _, rfl, HS.out, (splT_zero L S P).symm ▸ HV.out, HF.out, HR.out, h0⟩ ?_
  clear HS HV HF HR cs h0
  rintro a w ⟨k, u5, u9, u10, u11, u12, u13, u14, u15, u16, u17, u18, hkn, rfl, hs, hv, hfb, hr, hj⟩
  have HS := Lib.hid hs
  have HV := Lib.hid hv
  have HF := Lib.hid hfb
  have HR := Lib.hid hr
  have cf : w.cell? ⟨fb, 0, none⟩ = some (.func (.func 28) #[.pointer (some ⟨vb, 0, none⟩)] #[]) := hfb.cell 0
  clear hs hv hfb
  by_cases hk : k < n
  · obtain ⟨ab, ao, rfl, hab, hcell⟩ := hr (by omega)
    have ck : w.cell? ⟨ab, ao + k, none⟩ = some (.int .i64 (P k)) := hcell k hk
    clear hcell hr
    have hm0 : 0 ≤ sm P k := sm_nonneg k (fun j hj => (hP j (by omega)).1)
    have hm1 : sm P (k + 1) ≤ L := hsum ▸ sm_mono n (by omega) (fun j hj => (hP j hj).1)
    have hmk : sm P (k + 1) = sm P k + P k := rfl
    have hpk := hP k hk
    have HT : Hid (Calls Try.prog 28 #[.pointer (some ⟨vb, 0, none⟩), .int .i64 (P k)] w fun e w' => e = .returned (.agg #[.int .i64 (P k), .int .i64 (splS L S P k)]) ∧ Blk w' vb 56 #[.int .i64 L, .int .i64 S, .int .i64 (sm P (k + 1)), .int .i64 (splT L S P (k + 1))] ∧ w.grownBy w' (some vb)) :=
      Lib.hid (by
        have h := take_28 L S (sm P k) (splT L S P k) (P k) vb w HV.out ⟨hL.1, by omega⟩ hS hpk ⟨hm0, by omega⟩ (by
          unfold splT
          split
          · have := share_range (S := S) (k := sm P k) (L := L) (by omega) hS.1 hm0 (by omega)
            omega
          · omega)
        rw [splT_succ, ← splS_eq, ← hmk] at h
        exact h)
    have HJ := Lib.hid hj
    clear hj hm0 hm1 hmk
    gi_wp2
    refine ⟨trivial, fun h => (by cases h), callsIn_wide.2 (HT.out.mono ?_)⟩
    rintro e w1 ⟨rfl, hv1, hg1⟩
    have HJ1 := Lib.hid (hJ _ _ _ HJ.out hg1)
    have HS1 := Lib.hid (blk_of_grown HS.out hg1 (fun e => by injection e with e; omega))
    have HF1 := Lib.hid (blk_of_grown HF.out hg1 (fun e => by injection e with e; omega))
    have HR1 := Lib.hid (HR.out.keep (w' := w1) fun p hp => (grown_below hg1 (B := B) (by have := HV.out.lt; omega) (by omega)).cell hp)
    have HV1 := Lib.hid hv1
    clear hv1 hg1 HJ HS HF HR HV ck cf HT
    obtain ⟨fn, tmps, assign, body, hy, hR⟩ := hY _ (P k, splS L S P k) w1 HJ1.out (by rw [splL_length]; exact hk)
    gi_wp2
    refine ⟨fun h => (by cases h), hR.mono ?_⟩
    rintro e w2 ⟨rfl, hj2, hk2⟩
    have HJ2 := Lib.hid hj2
    have HK2 := Lib.hid hk2
    clear hR hy hj2 hk2
    gi_wp2
    refine ⟨⟨k + 1, _, _, _, _, _, _, _, _, _, _, _, by omega, rfl, ?_, ?_, ?_, ?_, ?_⟩, ?_⟩
    · exact HK2.out.2.1.trans HS1.out
    · exact HK2.out.2.2.1.trans HV1.out
    · exact HK2.out.2.2.2.trans HF1.out
    · exact HR1.out.below (HK2.out.1.mono hBn)
    · rw [← splL_succ]; exact HJ2.out
    · show n - ((k : Int) + 1).toNat < n - ((k : Int)).toNat
      omega
  · gi_wp2
    go_end0
    refine ⟨⟨_, rfl⟩, _, rfl, ?_⟩
    rw [show n = k by omega]
    exact hj

/-- what the iterator hands out -/
theorem parts_seq (m : Nat) (sb vb fb n₀ : Nat) (L S : Int) (P : Nat → Int) (A : Option Addr) (n c B : Nat) (hL : 0 ≤ L ∧ L ≤ 1073741824) (hS : 0 ≤ S ∧ S ≤ 1073741824) (hP : ∀ k, k < n → 0 ≤ P k ∧ P k ≤ 1073741824) (hsum : sm P n = L) (hn : n ≤ 64)
    (hsv : sb ≠ vb) (hfv : fb ≠ vb) (hnv : n₀ ≤ vb) (hBn : B ≤ n₀) (w : World) (hs : Blk w sb 32 #[.slice A n c]) (hv : Blk w vb 56 #[.int .i64 L, .int .i64 S, .int .i64 0, .int .i64 0]) (hfb : Blk w fb 57 #[.func (.func 28) #[.pointer (some ⟨vb, 0, none⟩)] #[]]) (hr : Rd w B A n fun k => .int .i64 (P k)) :
    SeqV Fence.wide m Try.prog 34 #[.pointer (some ⟨sb, 0, none⟩), .pointer (some ⟨fb, 0, none⟩)] (fun x : Int × Int => #[.agg #[.int .i64 x.1, .int .i64 x.2]]) (KpV n₀ sb vb fb) (fun xs => xs = splL L S P n) n vb w := fun l J W hW hJ hY h0 =>
  parts1_in m l sb vb fb n₀ L S P A n c B hL hS hP hsum hn hsv hfv hnv hBn J hJ hY W (hs.below hW hs.lt) (hv.below hW hv.lt) (hfb.below hW hfb.lt) (hr.below (hW.mono (by have := hv.lt; omega))) h0
end Go.Proofs.Ythmebjbaigiehaa
