/- Contracts of the laws SaltSplitSpec and SaltLeachSpec: they return true for every input. -/
import Derived.Test.YthmebjbaigiehaaLaw
import Derived.Test.YthmebjbaigiehaaRefLeach
import Derived.Test.YthmebjbaigiehaaRefTurns
namespace Go.Proofs.Ythmebjbaigiehaa
open Go.RowKit

theorem rd_step {w w' : World} {A : Option Addr} {n : Nat} {X Y : Nat → Int} (h : RdP w w.heap.size A n X Y) (hb : Below w.heap.size w w') : RdP w' w'.heap.size A n X Y := Rd.mono (RdP.below h hb) hb.size
/-- Split's contract, with the error and the length set apart -/
def SplC (f : FuncId) (L S : Int) (A : Option Addr) (n c : Nat) (B : Nat) (P : Nat → Int) (E : Int) (m : Nat) (Y : Nat → Int) : Prop :=
  ∀ W, Rd W B A n (fun k => .int .i64 (P k)) → B ≤ W.heap.size → Calls Try.prog f #[.agg #[.int .i64 L, .int .i64 S], .slice A n c] W fun e w' => (∃ A' c', e = .returned (.tuple #[.slice A' m c', .int .i64 E]) ∧ RdP w' w'.heap.size A' m P Y) ∧ Below W.heap.size W w'
theorem splC_16 (L S : Int) (A : Option Addr) (n c B : Nat) (P : Nat → Int) (hm : n ≤ 9223372036854775807) : SplC 16 L S A n c B P (splE L S n P) (if splE L S n P = 0 then n else 0) (splS L S P) := fun W h1 h2 =>
  (Split_16 L S A n c B P W hm h2 h1).mono fun e w' ⟨⟨A', n', c', he, hn, hr⟩, hb⟩ => by subst hn; exact ⟨⟨A', c', he, hr⟩, hb⟩
theorem splC_17 (L S : Int) (A : Option Addr) (n c B : Nat) (P : Nat → Int) (hm : n ≤ 9223372036854775807) : SplC 17 L S A n c B P (splE L S n P) (if splE L S n P = 0 then n else 0) (splS L S P) := fun W h1 h2 =>
  (ref_Split_17 L S A n c B P W hm h2 h1).mono fun e w' ⟨⟨A', n', c', he, hn, hr⟩, hb⟩ => by subst hn; exact ⟨⟨A', c', he, hr⟩, hb⟩

set_option maxRecDepth 100000 in
set_option maxHeartbeats 4000000 in
theorem splitSpec_4 (L S : Int) (A : Option Addr) (n c B : Nat) (P : Nat → Int) (w : World) (hm : n ≤ 9223372036854775807) (hB : B ≤ w.heap.size) (hr : Rd w B A n fun k => .int .i64 (P k)) :
    Calls Try.prog 4 #[.agg #[.int .i64 L, .int .i64 S], .slice A n c] w fun e w' => e = .returned (.bool true) ∧ Below w.heap.size w w' := by
  have HR := Lib.hid hr
  clear hr
  have HX := Lib.hid (splC_16 L S A n c B P hm)
  have HY := Lib.hid (splC_17 L S A n c B P hm)
  have hmm : (if splE L S n P = 0 then n else 0) ≤ 9223372036854775807 := by split <;> omega
  generalize (if splE L S n P = 0 then n else 0) = m at HX HY hmm
  generalize splE L S n P = E at HX HY
  generalize splS L S P = Y at HX HY
  go_enter Try.func4, Try.ntmps4
  go_wp2_with fail
  obtain ⟨u0, hbx⟩ : ∃ zz, zz = w.alloc (.cells #[.int .i64 L, .int .i64 S] 24) := ⟨_, rfl⟩
  have NW : Blk u0 (w.heap.size) 24 #[.int .i64 L, .int .i64 S] := hbx ▸ ((Blk.new' rfl))
  have hb : Below w.heap.size w u0 := by rw [hbx]; (repeat (first | exact Below.refl _ _ | exact below_alloc _ _ | refine Below.alloc ?_ (by simp; omega) _ | refine Below.alloc ?_ (by simp) _))
  rw [← hbx]
  clear hbx
  have B1 := Lib.hid (show Below w.heap.size w u0 from hb)
  have hz1 := B1.out.size
  clear hb 
  have W1 := Lib.hid NW
  clear NW
  have hsW1 := W1.out.lt
  refine (sane_11 _).mono ?_
  rintro e v0 ⟨rfl, hb⟩
  have B2 := Lib.hid (B1.out.trans (hb.mono B1.out.size))
  have W2 := Lib.hid (W1.out.below hb W1.out.lt)
  have hz2 := B2.out.size
  clear hb B1 hz1 W1
  have hsW2 := W2.out.lt
  clear hsW1
  by_cases hn : 200 < n
  · have hn' : (200 : Int) < n := by omega
    go_wp2_with fail
    go_ret
    exact ⟨rfl, B2.out⟩
  have hn' : (n : Int) ≤ 200 := by omega
  have cW0 : v0.cell? ⟨w.heap.size, 0, none⟩ = some (.int .i64 L) := W2.out.cell 0
  have cW1 : v0.cell? ⟨w.heap.size, 1, none⟩ = some (.int .i64 S) := W2.out.cell 1
  go_wp2_with fail
  refine (HX.out _ (HR.out.below (B2.out.mono hB)) (by omega)).mono ?_
  rintro e v1 ⟨⟨A1, c1, rfl, hr1⟩, hb⟩
  clear cW0 cW1
  have B3 := Lib.hid (B2.out.trans (hb.mono B2.out.size))
  have W3 := Lib.hid (W2.out.below hb W2.out.lt)
  have hz3 := B3.out.size
  clear hb B2 hz2 W2
  have hsW3 := W3.out.lt
  clear hsW2
  have K3 := Lib.hid hr1
  clear hr1
  have cW0 : v1.cell? ⟨w.heap.size, 0, none⟩ = some (.int .i64 L) := W3.out.cell 0
  have cW1 : v1.cell? ⟨w.heap.size, 1, none⟩ = some (.int .i64 S) := W3.out.cell 1
  go_wp2_with fail
  refine (HY.out _ (HR.out.below (B3.out.mono hB)) (by omega)).mono ?_
  rintro e v2 ⟨⟨A2, c2, rfl, hr2⟩, hb⟩
  clear cW0 cW1
  have B4 := Lib.hid (B3.out.trans (hb.mono B3.out.size))
  have W4 := Lib.hid (W3.out.below hb W3.out.lt)
  have K4 := Lib.hid (rd_step K3.out hb)
  have hz4 := B4.out.size
  clear hb B3 hz3 W3 K3
  have hsW4 := W4.out.lt
  clear hsW3
  go_wp2_with fail
  refine (Same_18 A1 A2 m c1 c2 v2.heap.size P Y v2 hmm K4.out hr2).mono ?_
  rintro e v3 ⟨rfl, q, rfl⟩
  go_wp2_with fail
  go_ret
  exact ⟨rfl, below_quiet B4.out ⟨q, rfl⟩⟩
set_option maxRecDepth 100000 in
set_option maxHeartbeats 4000000 in
theorem leachSpec_5 (H D L S most lim : Int) (w : World) :
    Calls Try.prog 5 #[.agg #[.int .i64 H, .int .i64 D], .agg #[.int .i64 L, .int .i64 S], .int .i64 most, .int .i64 lim] w fun e w' => e = .returned (.bool true) ∧ Below w.heap.size w w' := by
  have HX := Lib.hid (fun W => Leach_19 H D L S W)
  have HY := Lib.hid (fun W => ref_Leach_20 H D L S W)
  have HZ := Lib.hid (fun W => Turns_21 H D L S most lim W)
  have HU := Lib.hid (fun W => ref_Turns_22 H D L S most lim W)
  unfold prE at HX HY
  unfold turV at HZ HU
  generalize orZ (lchE H D L S) H = x at HX HY
  generalize orZ (lchE H D L S) (lchA H D L S) = y at HX HY
  generalize orZ (lchE H D L S) L = z at HX HY
  generalize orZ (lchE H D L S) (lchD H D L S) = u at HX HY
  generalize lchE H D L S = E at HX HY
  generalize (if trnE H D L S most lim = 0 then trN (trn H L S lim most.toNat D) else 0) = p at HZ HU
  generalize (decide (trnE H D L S most lim = 0) && (trn H L S lim most.toNat D).isSome) = q at HZ HU
  generalize trnE H D L S most lim = F at HZ HU
  go_enter Try.func5, Try.ntmps5
  go_wp2_with fail
  obtain ⟨u0, hbx⟩ : ∃ zz, zz = (w.alloc (.cells #[.int .i64 H, .int .i64 D] 38)).alloc (.cells #[.int .i64 L, .int .i64 S] 24) := ⟨_, rfl⟩
  have NF : Blk u0 (w.heap.size) 38 #[.int .i64 H, .int .i64 D] := hbx ▸ ((Blk.new' rfl) |>.alloc _)
  have NW : Blk u0 (w.heap.size + 1) 24 #[.int .i64 L, .int .i64 S] := hbx ▸ ((Blk.new' (by simp)))
  have hb : Below w.heap.size w u0 := by rw [hbx]; (repeat (first | exact Below.refl _ _ | exact below_alloc _ _ | refine Below.alloc ?_ (by simp; omega) _ | refine Below.alloc ?_ (by simp) _))
  rw [← hbx]
  clear hbx
  have B1 := Lib.hid (show Below w.heap.size w u0 from hb)
  have hz1 := B1.out.size
  clear hb 
  have F1 := Lib.hid NF
  clear NF
  have hsF1 := F1.out.lt
  have W1 := Lib.hid NW
  clear NW
  have hsW1 := W1.out.lt
  refine (sane_11 _).mono ?_
  rintro e v0 ⟨rfl, hb⟩
  have B2 := Lib.hid (B1.out.trans (hb.mono B1.out.size))
  have F2 := Lib.hid (F1.out.below hb F1.out.lt)
  have W2 := Lib.hid (W1.out.below hb W1.out.lt)
  have hz2 := B2.out.size
  clear hb B1 hz1 F1 W1
  have hsF2 := F2.out.lt
  have hsW2 := W2.out.lt
  clear hsF1 hsW1
  have cF0 : v0.cell? ⟨w.heap.size, 0, none⟩ = some (.int .i64 H) := F2.out.cell 0
  have cF1 : v0.cell? ⟨w.heap.size, 1, none⟩ = some (.int .i64 D) := F2.out.cell 1
  have cW0 : v0.cell? ⟨w.heap.size + 1, 0, none⟩ = some (.int .i64 L) := W2.out.cell 0
  have cW1 : v0.cell? ⟨w.heap.size + 1, 1, none⟩ = some (.int .i64 S) := W2.out.cell 1
  go_wp2_with fail
  refine (HX.out _).mono ?_
  rintro e v1 ⟨rfl, hb⟩
  clear cF0 cF1 cW0 cW1
  have B3 := Lib.hid (B2.out.trans (hb.mono B2.out.size))
  have F3 := Lib.hid (F2.out.below hb F2.out.lt)
  have W3 := Lib.hid (W2.out.below hb W2.out.lt)
  have hz3 := B3.out.size
  clear hb B2 hz2 F2 W2
  have hsF3 := F3.out.lt
  have hsW3 := W3.out.lt
  clear hsF2 hsW2
  go_upto_region 4 with fail
  obtain ⟨u1, hbx⟩ : ∃ zz, zz = (v1.alloc (.cells #[.int .i64 x, .int .i64 y] 38)).alloc (.cells #[.int .i64 z, .int .i64 u] 24) := ⟨_, rfl⟩
  have NP : Blk u1 (v1.heap.size) 38 #[.int .i64 x, .int .i64 y] := hbx ▸ ((Blk.new' rfl) |>.alloc _)
  have NQ : Blk u1 (v1.heap.size + 1) 24 #[.int .i64 z, .int .i64 u] := hbx ▸ ((Blk.new' (by simp)))
  have hb : Below v1.heap.size v1 u1 := by rw [hbx]; (repeat (first | exact Below.refl _ _ | exact below_alloc _ _ | refine Below.alloc ?_ (by simp; omega) _ | refine Below.alloc ?_ (by simp) _))
  rw [← hbx]
  clear hbx
  have B4 := Lib.hid (B3.out.trans (hb.mono B3.out.size))
  have F4 := Lib.hid (F3.out.below hb F3.out.lt)
  have W4 := Lib.hid (W3.out.below hb W3.out.lt)
  have hz4 := B4.out.size
  clear hb B3 hz3 F3 W3
  have hsF4 := F4.out.lt
  have hsW4 := W4.out.lt
  clear hsF3 hsW3
  have P4 := Lib.hid NP
  clear NP
  have hsP4 := P4.out.lt
  have Q4 := Lib.hid NQ
  clear NQ
  have hsQ4 := Q4.out.lt
  have cF0 : u1.cell? ⟨w.heap.size, 0, none⟩ = some (.int .i64 H) := F4.out.cell 0
  have cF1 : u1.cell? ⟨w.heap.size, 1, none⟩ = some (.int .i64 D) := F4.out.cell 1
  have cW0 : u1.cell? ⟨w.heap.size + 1, 0, none⟩ = some (.int .i64 L) := W4.out.cell 0
  have cW1 : u1.cell? ⟨w.heap.size + 1, 1, none⟩ = some (.int .i64 S) := W4.out.cell 1
  have cP0 : u1.cell? ⟨v1.heap.size, 0, none⟩ = some (.int .i64 x) := P4.out.cell 0
  have cP1 : u1.cell? ⟨v1.heap.size, 1, none⟩ = some (.int .i64 y) := P4.out.cell 1
  have cQ0 : u1.cell? ⟨v1.heap.size + 1, 0, none⟩ = some (.int .i64 z) := Q4.out.cell 0
  have cQ1 : u1.cell? ⟨v1.heap.size + 1, 1, none⟩ = some (.int .i64 u) := Q4.out.cell 1
  go_wp2_with fail
  refine (HY.out _).mono ?_
  rintro e v2 ⟨rfl, hb⟩
  clear cF0 cF1 cW0 cW1 cP0 cP1 cQ0 cQ1
  have B5 := Lib.hid (B4.out.trans (hb.mono B4.out.size))
  have F5 := Lib.hid (F4.out.below hb F4.out.lt)
  have W5 := Lib.hid (W4.out.below hb W4.out.lt)
  have P5 := Lib.hid (P4.out.below hb P4.out.lt)
  have Q5 := Lib.hid (Q4.out.below hb Q4.out.lt)
  have hz5 := B5.out.size
  clear hb B4 hz4 F4 W4 P4 Q4
  have hsF5 := F5.out.lt
  have hsW5 := W5.out.lt
  have hsP5 := P5.out.lt
  have hsQ5 := Q5.out.lt
  clear hsF4 hsW4 hsP4 hsQ4
  go_upto_region 5 with fail
  obtain ⟨u2, hbx⟩ : ∃ zz, zz = (v2.alloc (.cells #[.int .i64 x, .int .i64 y] 38)).alloc (.cells #[.int .i64 z, .int .i64 u] 24) := ⟨_, rfl⟩
  have NM : Blk u2 (v2.heap.size) 38 #[.int .i64 x, .int .i64 y] := hbx ▸ ((Blk.new' rfl) |>.alloc _)
  have NO : Blk u2 (v2.heap.size + 1) 24 #[.int .i64 z, .int .i64 u] := hbx ▸ ((Blk.new' (by simp)))
  have hb : Below v2.heap.size v2 u2 := by rw [hbx]; (repeat (first | exact Below.refl _ _ | exact below_alloc _ _ | refine Below.alloc ?_ (by simp; omega) _ | refine Below.alloc ?_ (by simp) _))
  rw [← hbx]
  clear hbx
  have B6 := Lib.hid (B5.out.trans (hb.mono B5.out.size))
  have F6 := Lib.hid (F5.out.below hb F5.out.lt)
  have W6 := Lib.hid (W5.out.below hb W5.out.lt)
  have P6 := Lib.hid (P5.out.below hb P5.out.lt)
  have Q6 := Lib.hid (Q5.out.below hb Q5.out.lt)
  have hz6 := B6.out.size
  clear hb B5 hz5 F5 W5 P5 Q5
  have hsF6 := F6.out.lt
  have hsW6 := W6.out.lt
  have hsP6 := P6.out.lt
  have hsQ6 := Q6.out.lt
  clear hsF5 hsW5 hsP5 hsQ5
  have M6 := Lib.hid NM
  clear NM
  have hsM6 := M6.out.lt
  have O6 := Lib.hid NO
  clear NO
  have hsO6 := O6.out.lt
  have cF0 : u2.cell? ⟨w.heap.size, 0, none⟩ = some (.int .i64 H) := F6.out.cell 0
  have cF1 : u2.cell? ⟨w.heap.size, 1, none⟩ = some (.int .i64 D) := F6.out.cell 1
  have cW0 : u2.cell? ⟨w.heap.size + 1, 0, none⟩ = some (.int .i64 L) := W6.out.cell 0
  have cW1 : u2.cell? ⟨w.heap.size + 1, 1, none⟩ = some (.int .i64 S) := W6.out.cell 1
  have cP0 : u2.cell? ⟨v1.heap.size, 0, none⟩ = some (.int .i64 x) := P6.out.cell 0
  have cP1 : u2.cell? ⟨v1.heap.size, 1, none⟩ = some (.int .i64 y) := P6.out.cell 1
  have cQ0 : u2.cell? ⟨v1.heap.size + 1, 0, none⟩ = some (.int .i64 z) := Q6.out.cell 0
  have cQ1 : u2.cell? ⟨v1.heap.size + 1, 1, none⟩ = some (.int .i64 u) := Q6.out.cell 1
  have cM0 : u2.cell? ⟨v2.heap.size, 0, none⟩ = some (.int .i64 x) := M6.out.cell 0
  have cM1 : u2.cell? ⟨v2.heap.size, 1, none⟩ = some (.int .i64 y) := M6.out.cell 1
  have cO0 : u2.cell? ⟨v2.heap.size + 1, 0, none⟩ = some (.int .i64 z) := O6.out.cell 0
  have cO1 : u2.cell? ⟨v2.heap.size + 1, 1, none⟩ = some (.int .i64 u) := O6.out.cell 1
  go_wp2_with fail
  refine (HZ.out _).mono ?_
  rintro e v3 ⟨rfl, hb⟩
  clear cF0 cF1 cW0 cW1 cP0 cP1 cQ0 cQ1 cM0 cM1 cO0 cO1
  have B7 := Lib.hid (B6.out.trans (hb.mono B6.out.size))
  have F7 := Lib.hid (F6.out.below hb F6.out.lt)
  have W7 := Lib.hid (W6.out.below hb W6.out.lt)
  have P7 := Lib.hid (P6.out.below hb P6.out.lt)
  have Q7 := Lib.hid (Q6.out.below hb Q6.out.lt)
  have M7 := Lib.hid (M6.out.below hb M6.out.lt)
  have O7 := Lib.hid (O6.out.below hb O6.out.lt)
  have hz7 := B7.out.size
  clear hb B6 hz6 F6 W6 P6 Q6 M6 O6
  have hsF7 := F7.out.lt
  have hsW7 := W7.out.lt
  have hsP7 := P7.out.lt
  have hsQ7 := Q7.out.lt
  have hsM7 := M7.out.lt
  have hsO7 := O7.out.lt
  clear hsF6 hsW6 hsP6 hsQ6 hsM6 hsO6
  have cF0 : v3.cell? ⟨w.heap.size, 0, none⟩ = some (.int .i64 H) := F7.out.cell 0
  have cF1 : v3.cell? ⟨w.heap.size, 1, none⟩ = some (.int .i64 D) := F7.out.cell 1
  have cW0 : v3.cell? ⟨w.heap.size + 1, 0, none⟩ = some (.int .i64 L) := W7.out.cell 0
  have cW1 : v3.cell? ⟨w.heap.size + 1, 1, none⟩ = some (.int .i64 S) := W7.out.cell 1
  have cP0 : v3.cell? ⟨v1.heap.size, 0, none⟩ = some (.int .i64 x) := P7.out.cell 0
  have cP1 : v3.cell? ⟨v1.heap.size, 1, none⟩ = some (.int .i64 y) := P7.out.cell 1
  have cQ0 : v3.cell? ⟨v1.heap.size + 1, 0, none⟩ = some (.int .i64 z) := Q7.out.cell 0
  have cQ1 : v3.cell? ⟨v1.heap.size + 1, 1, none⟩ = some (.int .i64 u) := Q7.out.cell 1
  have cM0 : v3.cell? ⟨v2.heap.size, 0, none⟩ = some (.int .i64 x) := M7.out.cell 0
  have cM1 : v3.cell? ⟨v2.heap.size, 1, none⟩ = some (.int .i64 y) := M7.out.cell 1
  have cO0 : v3.cell? ⟨v2.heap.size + 1, 0, none⟩ = some (.int .i64 z) := O7.out.cell 0
  have cO1 : v3.cell? ⟨v2.heap.size + 1, 1, none⟩ = some (.int .i64 u) := O7.out.cell 1
  go_wp2_with fail
  refine (HU.out _).mono ?_
  rintro e v4 ⟨rfl, hb⟩
  clear cF0 cF1 cW0 cW1 cP0 cP1 cQ0 cQ1 cM0 cM1 cO0 cO1
  have B8 := Lib.hid (B7.out.trans (hb.mono B7.out.size))
  have F8 := Lib.hid (F7.out.below hb F7.out.lt)
  have W8 := Lib.hid (W7.out.below hb W7.out.lt)
  have P8 := Lib.hid (P7.out.below hb P7.out.lt)
  have Q8 := Lib.hid (Q7.out.below hb Q7.out.lt)
  have M8 := Lib.hid (M7.out.below hb M7.out.lt)
  have O8 := Lib.hid (O7.out.below hb O7.out.lt)
  have hz8 := B8.out.size
  clear hb B7 hz7 F7 W7 P7 Q7 M7 O7
  have hsF8 := F8.out.lt
  have hsW8 := W8.out.lt
  have hsP8 := P8.out.lt
  have hsQ8 := Q8.out.lt
  have hsM8 := M8.out.lt
  have hsO8 := O8.out.lt
  clear hsF7 hsW7 hsP7 hsQ7 hsM7 hsO7
  clear F8 hsF8 W8 hsW8
  have cP0 : v4.cell? ⟨v1.heap.size, 0, none⟩ = some (.int .i64 x) := P8.out.cell 0
  have cP1 : v4.cell? ⟨v1.heap.size, 1, none⟩ = some (.int .i64 y) := P8.out.cell 1
  have cQ0 : v4.cell? ⟨v1.heap.size + 1, 0, none⟩ = some (.int .i64 z) := Q8.out.cell 0
  have cQ1 : v4.cell? ⟨v1.heap.size + 1, 1, none⟩ = some (.int .i64 u) := Q8.out.cell 1
  have cM0 : v4.cell? ⟨v2.heap.size, 0, none⟩ = some (.int .i64 x) := M8.out.cell 0
  have cM1 : v4.cell? ⟨v2.heap.size, 1, none⟩ = some (.int .i64 y) := M8.out.cell 1
  have cO0 : v4.cell? ⟨v2.heap.size + 1, 0, none⟩ = some (.int .i64 z) := O8.out.cell 0
  have cO1 : v4.cell? ⟨v2.heap.size + 1, 1, none⟩ = some (.int .i64 u) := O8.out.cell 1
  go_wp2_with fail
  go_ret
  exact ⟨rfl, B8.out⟩
end Go.Proofs.Ythmebjbaigiehaa
