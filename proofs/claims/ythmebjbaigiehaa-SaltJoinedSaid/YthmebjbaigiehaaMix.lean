/- Contract of Mix. No condition. -/
import Derived.Test.YthmebjbaigiehaaVessel
import Derived.Deep.RegionHeld3
import Derived.Deep.AppendLies
import Derived.Maps.AppendAt
namespace Go.Proofs.Ythmebjbaigiehaa
open Go.RowKit

theorem results_row2 {P : Program} {fn : Func} {p u : Tmp} {ty : TypeId} (h : fn.results = #[.cell p ty, .tmp u]) (tmps : Array Value) (w : World) (g : Nat) (t : TypeId) (cs : Array Value) (fr : Nat × Nat) (d : TypeDesc)
    (hp : tmps.getD p undef = .pointer (some ⟨g, 0, none⟩)) (hg : w.heap[g]? = some (.cells cs t fr))
    (hu : P.underlying ty = some d) (hd : (match d with | .struct _ | .array _ _ => true | _ => false) = true) (hi : (P.info? ty).map (·.size) = some cs.size) :
    (results fn tmps).run P w = .ok (.tuple #[.agg cs, tmps.getD u undef]) w := by
  have hp' : tmps[p]?.getD undef = .pointer (some ⟨g, 0, none⟩) := by simpa using hp
  simp [results, h, hp', asAddr, run_loadVar_row w g t ty cs fr d hg hu hd hi]

theorem info3 : (Try.prog.info? 3).map (fun i => (i.zero, i.size, i.bytes)) = some (some (.int .i64 0), 1, 8) := by kernel_rfl
/-- the cells of k integers -/
def rowI (f : Nat → Int) (k : Nat) : List Value := (List.range k).map fun j => .int .i64 (f j)
theorem rowI_succ (f : Nat → Int) (k : Nat) : rowI f k ++ [.int .i64 (f k)] = rowI f (k + 1) := by simp [rowI, List.range_succ]
theorem rowI_at (f : Nat → Int) (n j : Nat) (h : j < n * 1) : (rowI f n)[j]? = some (.int .i64 (f j)) := by
  have : j < n := by omega
  simp [rowI, this]
theorem cell_one_of {W : World} {b : Nat} {x : Value} (h : W.cell? ⟨b, 0, none⟩ = some x) : ∀ j u, [x][j]? = some u → W.cell? ((⟨b, 0, none⟩ : Addr).add j) = some u := by
  intro j u hj
  match j, hj with
  | 0, hj =>
    simp at hj
    subst hj
    simpa [Addr.add] using h

/-- two rows of their own, apart, and the box of the water at hand -/
def TwoR (base H : Nat) (vL vG : Value) (kL kG : Nat) (X Y : Nat → Int) (W : World) : Prop :=
  W.ownsRow base 3 1 vL kL (rowI X kL) ∧ W.ownsRow base 3 1 vG kG (rowI Y kG) ∧ (∀ q, vL.ownBlock = some q → vG.ownBlock ≠ some q) ∧ H ≤ W.heap.size

section
variable {base H : Nat} {vL vG : Value} {kL kG : Nat} {X Y : Nat → Int} {W : World}
theorem TwoR.alloc (h : TwoR base H vL vG kL kG X Y W) (o : Obj) : TwoR base H vL vG kL kG X Y (W.alloc o) :=
  ⟨h.1.alloc o, h.2.1.alloc o, h.2.2.1, by have := h.2.2.2; simp; omega⟩
theorem TwoR.drewN (h : TwoR base H vL vG kL kG X Y W) (k : Nat) : TwoR base H vL vG kL kG X Y (W.drewN k) := h
theorem TwoR.swap (h : TwoR base H vL vG kL kG X Y W) : TwoR base H vG vL kG kL Y X W := ⟨h.2.1, h.1, fun q e e2 => h.2.2.1 q e2 e, h.2.2.2⟩
/-- behind an append to the first row -/
theorem TwoR.push (h : TwoR base H vL vG kL kG X Y W) {g cap : Nat} {w' : World} (ho : w'.ownsRow base 3 1 (.slice (some ⟨g, 0, none⟩) (kL + 1) cap) (kL + 1) (rowI X kL ++ [.int .i64 (X kL)])) (hg : W.grownBy w' vL.ownBlock)
    (hat : vL.ownBlock = some g ∨ g = W.heap.size) : TwoR base H (.slice (some ⟨g, 0, none⟩) (kL + 1) cap) vG (kL + 1) kG X Y w' := by
  refine ⟨by rw [← rowI_succ]; exact ho, ?_, ?_, Nat.le_trans h.2.2.2 hg.size⟩
  · cases hv : vL.ownBlock with
    | none => rw [hv] at hg; exact h.2.1.kept hg (by cases hG : vG.ownBlock <;> simp)
    | some q => rw [hv] at hg; exact h.2.1.kept hg (.inr (h.2.2.1 q hv))
  · intro q hq e
    simp [Value.ownBlock] at hq
    subst hq
    rcases hat with hat | hat
    · exact h.2.2.1 _ hat e
    · have := (h.2.1.lt _ e).2
      omega
end
/-- the same, and what lies below, and the box of the water at hand -/
def TwoS (base H : Nat) (vL vG : Value) (kL kG : Nat) (X Y : Nat → Int) (w0 : World) (xb : Nat) (bx : Array Value) (W : World) : Prop :=
  TwoR base H vL vG kL kG X Y W ∧ Below base w0 W ∧ Blk W xb 24 bx ∧ (base ≤ H ∧ xb < H) ∧ vL.ownBlock ≠ some xb ∧ vG.ownBlock ≠ some xb
section
variable {base H : Nat} {vL vG : Value} {kL kG : Nat} {X Y : Nat → Int} {W w0 : World} {xb : Nat} {bx : Array Value}
theorem TwoS.alloc (h : TwoS base H vL vG kL kG X Y w0 xb bx W) (o : Obj) : TwoS base H vL vG kL kG X Y w0 xb bx (W.alloc o) :=
  ⟨h.1.alloc o, h.2.1.alloc (by have := h.1.2.2.2; have := h.2.2.2.1.1; omega) o, h.2.2.1.alloc o, h.2.2.2⟩
theorem TwoS.drew (h : TwoS base H vL vG kL kG X Y w0 xb bx W) : TwoS base H vL vG kL kG X Y w0 xb bx W.drew := ⟨h.1, h.2.1.drew, h.2.2.1, h.2.2.2⟩
theorem TwoS.swap (h : TwoS base H vL vG kL kG X Y w0 xb bx W) : TwoS base H vG vL kG kL Y X w0 xb bx W := ⟨h.1.swap, h.2.1, h.2.2.1, h.2.2.2.1, h.2.2.2.2.2, h.2.2.2.2.1⟩
theorem TwoS.size (h : TwoS base H vL vG kL kG X Y w0 xb bx W) : base ≤ W.heap.size := by have := h.1.2.2.2; have := h.2.2.2.1.1; omega
theorem TwoS.push (h : TwoS base H vL vG kL kG X Y w0 xb bx W) {g cap : Nat} {w' : World} (ho : w'.ownsRow base 3 1 (.slice (some ⟨g, 0, none⟩) (kL + 1) cap) (kL + 1) (rowI X kL ++ [.int .i64 (X kL)])) (hg : W.grownBy w' vL.ownBlock)
    (hat : vL.ownBlock = some g ∨ g = W.heap.size) : TwoS base H (.slice (some ⟨g, 0, none⟩) (kL + 1) cap) vG (kL + 1) kG X Y w0 xb bx w' := by
  refine ⟨h.1.push ho hg hat, h.2.1.grown hg h.size (fun j hj => (h.1.1.lt j hj).1), blk_of_grown h.2.2.1 hg h.2.2.2.2.1, h.2.2.2.1, ?_, h.2.2.2.2.2⟩
  intro e
  simp [Value.ownBlock] at e
  subst e
  rcases hat with hat | hat
  · exact h.2.2.2.2.1 hat
  · have := h.1.2.2.2; have := h.2.2.2.1.2; omega
end
theorem Blk.new' {w : World} {k : Nat} {t : TypeId} {cs : Array Value} (h : k = w.heap.size) : Blk (w.alloc (.cells cs t)) k t cs := h ▸ Blk.new w t cs
/-- water and an error -/
def wtE (E a b : Int) : Value := .tuple #[.agg #[.int .i64 (orZ E a), .int .i64 (orZ E b)], .int .i64 E]

set_option maxRecDepth 100000 in
set_option maxHeartbeats 8000000 in
theorem Mix_12 (A : Option Addr) (n c B : Nat) (X Y : Nat → Int) (w : World) (hm : n ≤ 9223372036854775807) (hB : B ≤ w.heap.size) (hr : RdP w B A n X Y) :
    Calls Try.prog 12 #[.slice A n c] w fun e w' => e = .returned (wtE (mixE n X Y) (sm X n) (sm Y n)) ∧ Below w.heap.size w w' := by
  have HR := Lib.hid hr
  clear hr
  by_cases hn : 64 < n
  · have hn' : (64 : Int) < n := by omega
    have HE : Hid (mixE n X Y = 2) := Lib.hid (by rw [mixE, if_pos hn])
    go_enter Try.func12, Try.ntmps12
    go_wp2_with fail
    refine bodyPost_ret (results_row2 rfl _ _ _ 24 _ (0, 0) _ rfl ((((Blk.new w 24 #[.int .i64 0, .int .i64 0])))) Try.underlying24 rfl (by kernel_rfl)) rfl ?_
    exact ⟨ret_val (by rw [HE.out]; simp [wtE, orZ]), below_alloc _ _⟩
  have hn' : (n : Int) ≤ 64 := by omega
  obtain ⟨i0, hi, hz0, hz1, hz2⟩ := info_parts info3
  go_enter Try.func12, Try.ntmps12
  go_wp2_with fail
  obtain ⟨w0, hw0⟩ : ∃ zz, zz = w.alloc (.cells #[.int .i64 0, .int .i64 0] 24) := ⟨_, rfl⟩
  have HF0 : Hid (Blk w0 w.heap.size 24 #[.int .i64 0, .int .i64 0]) := Lib.hid (hw0 ▸ Blk.new _ _ _)
  have HB0 : Hid (Below w.heap.size w w0) := Lib.hid (hw0 ▸ below_alloc _ _)
  have hz : w.heap.size + 1 ≤ w0.heap.size := by rw [hw0]; simp
  rw [← hw0]
  clear hw0
  go_loopw [4, 5, 15] (fun vL vG i wr => ∃ k : Nat, k ≤ n ∧ i = .int .i64 k ∧ Hid (rtN X Y k = true) ∧ TwoR (w.heap.size+1) 0 vL vG k k X Y wr ∧ Below (w.heap.size+1) w0 wr) (fun _ _ i _ => n - (intOf i).toNat)
  case atStart => exact ⟨0, Nat.zero_le _, rfl, Lib.hid rfl, ⟨World.ownsRow_nil _ _ _ _, World.ownsRow_nil _ _ _ _, by simp [Value.ownBlock], Nat.zero_le _⟩, Below.refl _ _⟩
  case round =>
    obtain ⟨k, hk, rfl, HK, hT, hb⟩ := hrel
    obtain ⟨AL, cL, hvL⟩ := own_form hT.1
    obtain ⟨AG, cG, hvG⟩ := own_form hT.2.1
    subst hvL
    subst hvG
    have HT := Lib.hid hT
    have HBr := Lib.hid (HB0.out.trans (hb.mono (by omega)))
    have HB1 := Lib.hid hb
    have HFr := Lib.hid (HF0.out.below hb (by omega))
    have hsr := HFr.out.lt
    clear hT hb
    by_cases hlt : k < n
    · have hlt' : (k : Int) < n := by omega
      obtain ⟨b, off, rfl, hbB, c1, c2⟩ := (HR.out.below (HBr.out.mono hB)).at_ hlt
      have hbb : b < wr.heap.size := World.block_lt_of_cell? _ _ c1
      go_upto_region 7 with fail
      obtain ⟨wx, hwx⟩ : ∃ zz, zz = wr.alloc (.cells #[.int .i64 (X k), .int .i64 (Y k)] 24) := ⟨_, rfl⟩
      have HX1 : Hid (Blk wx wr.heap.size 24 #[.int .i64 (X k), .int .i64 (Y k)]) := Lib.hid (hwx ▸ Blk.new _ _ _)
      have hbx : Below wr.heap.size wr wx := hwx ▸ below_alloc _ _
      rw [← hwx]
      clear hwx c1 c2 hbb
      have x0 : wx.cell? ⟨wr.heap.size, 0, none⟩ = some (.int .i64 (X k)) := HX1.out.cell 0
      have x1 : wx.cell? ⟨wr.heap.size, 1, none⟩ = some (.int .i64 (Y k)) := HX1.out.cell 1
      go_wp2_with fail
      refine (right_25 _ _ _).mono ?_
      rintro e w4 ⟨rfl, hb4⟩
      have hb5 : Below wr.heap.size wr w4 := hbx.trans (hb4.mono hbx.size)
      have HX4 := Lib.hid (HX1.out.below hb4 HX1.out.lt)
      have HF4 := Lib.hid (HFr.out.below hb5 hsr)
      have HB4 := Lib.hid (HBr.out.trans (hb5.mono (by omega)))
      have HB41 := Lib.hid (HB1.out.trans (hb5.mono (by omega)))
      have HT4 : Hid (TwoR (w.heap.size+1) wr.heap.size (.slice AL k cL) (.slice AG k cG) k k X Y w4) := Lib.hid ⟨own_below HT.out.1 hb5, own_below HT.out.2.1 hb5, HT.out.2.2.1, hb5.size⟩
      have hLn : ∀ q, (Value.slice AL k cL).ownBlock = some q → q < wr.heap.size := fun q hq => (HT.out.1.lt q hq).2
      have hGn : ∀ q, (Value.slice AG k cG).ownBlock = some q → q < wr.heap.size := fun q hq => (HT.out.2.1.lt q hq).2
      have HLN := Lib.hid hLn
      have HGN := Lib.hid hGn
      clear hLn hGn x0 x1 hb4 hb5 hbx HX1
      have hx4 := HX4.out.lt
      cases h1 : rt (X k) (Y k)
      · have HE : Hid (mixE n X Y = 430) := Lib.hid (by rw [mixE, if_neg hn, if_neg]; intro h; have := rtN_bad h1 n hlt; rw [h.1] at this; cases this)
        have r0 : w4.cell? ⟨w.heap.size, 0, none⟩ = some (.int .i64 0) := HF4.out.cell 0
        have r1 : w4.cell? ⟨w.heap.size, 1, none⟩ = some (.int .i64 0) := HF4.out.cell 1
        have f0 := HF4.out.frozen 0
        have f1 := HF4.out.frozen 1
        clear h1
        go_wp2_with fail
        refine bodyPost_ret (results_row2 rfl _ _ _ 24 _ (0, 0) _ rfl ((HF4.out.set_ 0 (.int .i64 0)).set_ 1 (.int .i64 0)) Try.underlying24 rfl (by kernel_rfl)) rfl ?_
        exact ⟨ret_val (by rw [HE.out]; simp [wtE, orZ]), (HB4.out.setCell (p := ⟨w.heap.size, 0, none⟩) (by simp) _).setCell (p := ⟨w.heap.size, 1, none⟩) (by simp) _⟩
      · have HK1 : Hid (rtN X Y (k + 1) = true) := Lib.hid (by rw [rtN, HK.out, h1]; rfl)
        clear h1
        have x0 : w4.cell? ⟨wr.heap.size, 0, none⟩ = some (.int .i64 (X k)) := HX4.out.cell 0
        have x1 : w4.cell? ⟨wr.heap.size, 1, none⟩ = some (.int .i64 (Y k)) := HX4.out.cell 1
        go_upto_region 9 with fail
        have HT0 : Hid (TwoS (w.heap.size+1) w4.heap.size (.slice AL k cL) (.slice AG k cG) k k X Y w0 wr.heap.size #[.int .i64 (X k), .int .i64 (Y k)] w4) := Lib.hid ⟨⟨HT4.out.1, HT4.out.2.1, HT4.out.2.2.1, Nat.le_refl _⟩, HB41.out, HX4.out, ⟨by omega, HX4.out.lt⟩, (fun e => by have := HLN.out _ e; omega), (fun e => by have := HGN.out _ e; omega)⟩
        go_region_held3 (fun w' => w'.cell? ⟨wr.heap.size, 0, none⟩ = some (.int .i64 (X k)) ∧ w'.cell? ⟨wr.heap.size, 1, none⟩ = some (.int .i64 (Y k)))
          (first | go_keep)
          (first
            | (refine step_append_lies _ (by rfl) (.tmp 23) (.tmp 26) 32 (by rfl) (w.heap.size+1) 3 i0 (.int .i64 0) 1 8 Try.underlying32 hi hz0 hz1 hz2 rfl (by decide) (.slice AL k cL) k (rowI X k) (by rfl) (by first | exact HT2.out.1.1 | exact HT2.out.1.1.alloc _ | exact HT0.out.1.1.alloc _ | exact (HT0.out.1.1.alloc _).alloc _) _ 1 1 [.int .i64 (X k)] (by rfl) (by rfl) (by first | exact hn1 | exact cell_one_new _ _ _ | exact cell_one_of (by simp)) (by simp [Value.oneCell']) (by omega) (by unfold maxLen; omega) (by omega) (by first | exact HT2.out.size | exact (HT2.out.alloc _).size | exact (HT0.out.alloc _).size | exact ((HT0.out.alloc _).alloc _).size) _ rfl ?_; intro gL capL wL hownL hgrL hatL hltL; (first | (have HT1 : Hid (TwoS (w.heap.size+1) w4.heap.size (.slice (some ⟨gL, 0, none⟩) (k + 1) capL) (.slice AG k cG) (k+1) k X Y w0 wr.heap.size #[.int .i64 (X k), .int .i64 (Y k)] wL) := Lib.hid (TwoS.push (by first | exact ((HT0.out.alloc _).alloc _).drew | exact (HT0.out.alloc _).drew) hownL hgrL hatL); have HTc := HT1) | (have HT12 : Hid (TwoS (w.heap.size+1) w4.heap.size (.slice (some ⟨gL, 0, none⟩) (k + 1) capL) (.slice (some ⟨gG, 0, none⟩) (k + 1) capG) (k+1) (k+1) X Y w0 wr.heap.size #[.int .i64 (X k), .int .i64 (Y k)] wL) := Lib.hid (TwoS.push (by first | exact HT2.out.alloc _ | exact HT2.out) hownL hgrL hatL); have HTc := HT12)); have xx0 : wL.cell? ⟨wr.heap.size, 0, none⟩ = some (.int .i64 (X k)) := HTc.out.2.2.1.cell 0; have xx1 : wL.cell? ⟨wr.heap.size, 1, none⟩ = some (.int .i64 (Y k)) := HTc.out.2.2.1.cell 1; (try have hn2 := cell_one_of ((blk_of_grown (g := w4.heap.size + 1) (t := 3) (cs := #[.int .i64 (Y k)]) (by exact Blk.new' (by simp)) hgrL (fun e => by have := HLN.out _ e; have := HT0.out.1.2.2.2; omega)).cell 0)); (try have hn2 := cell_one_of ((blk_of_grown (g := w4.heap.size) (t := 3) (cs := #[.int .i64 (Y k)]) (by exact (Blk.new' (by simp)).alloc _) hgrL (fun e => by have := HLN.out _ e; have := HT0.out.1.2.2.2; omega)).cell 0)); clear HTc)
            | (refine step_append_lies _ (by rfl) (.tmp 28) (.tmp 31) 32 (by rfl) (w.heap.size+1) 3 i0 (.int .i64 0) 1 8 Try.underlying32 hi hz0 hz1 hz2 rfl (by decide) (.slice AG k cG) k (rowI Y k) (by rfl) (by first | exact HT1.out.1.2.1 | exact HT1.out.1.2.1.alloc _ | exact HT0.out.1.2.1.alloc _ | exact (HT0.out.1.2.1.alloc _).alloc _) _ 1 1 [.int .i64 (Y k)] (by rfl) (by rfl) (by first | exact hn2 | exact cell_one_new _ _ _ | exact cell_one_of (by simp)) (by simp [Value.oneCell']) (by omega) (by unfold maxLen; omega) (by omega) (by first | exact HT1.out.size | exact (HT1.out.alloc _).size | exact (HT0.out.alloc _).size | exact ((HT0.out.alloc _).alloc _).size) _ rfl ?_; intro gG capG wG hownG hgrG hatG hltG; (first | (have HT2 : Hid (TwoS (w.heap.size+1) w4.heap.size (.slice AL k cL) (.slice (some ⟨gG, 0, none⟩) (k + 1) capG) k (k+1) X Y w0 wr.heap.size #[.int .i64 (X k), .int .i64 (Y k)] wG) := Lib.hid (TwoS.push (by first | exact ((HT0.out.alloc _).alloc _).drew.swap | exact (HT0.out.alloc _).drew.swap) hownG hgrG hatG).swap; have HTc := HT2) | (have HT12 : Hid (TwoS (w.heap.size+1) w4.heap.size (.slice (some ⟨gL, 0, none⟩) (k + 1) capL) (.slice (some ⟨gG, 0, none⟩) (k + 1) capG) (k+1) (k+1) X Y w0 wr.heap.size #[.int .i64 (X k), .int .i64 (Y k)] wG) := Lib.hid (TwoS.push (by first | exact (HT1.out.alloc _).swap | exact HT1.out.swap) hownG hgrG hatG).swap; have HTc := HT12)); have xx0 : wG.cell? ⟨wr.heap.size, 0, none⟩ = some (.int .i64 (X k)) := HTc.out.2.2.1.cell 0; have xx1 : wG.cell? ⟨wr.heap.size, 1, none⟩ = some (.int .i64 (Y k)) := HTc.out.2.2.1.cell 1; (try have hn1 := cell_one_of ((blk_of_grown (g := w4.heap.size + 1) (t := 3) (cs := #[.int .i64 (X k)]) (by exact Blk.new' (by simp)) hgrG (fun e => by have := HGN.out _ e; have := HT0.out.1.2.2.2; omega)).cell 0)); (try have hn1 := cell_one_of ((blk_of_grown (g := w4.heap.size) (t := 3) (cs := #[.int .i64 (X k)]) (by exact (Blk.new' (by simp)).alloc _) hgrG (fun e => by have := HGN.out _ e; have := HT0.out.1.2.2.2; omega)).cell 0)); clear HTc))
        all_goals
          go_wp2_with fail
          go_roundw
          case rel => exact ⟨k + 1, by omega, by go_num, HK1, ⟨HT12.out.1.1, HT12.out.1.2.1, HT12.out.1.2.2.1, Nat.zero_le _⟩, HT12.out.2.1⟩
          case measure => simp [intOf]; omega
    · obtain rfl : k = n := by omega
      have HRL : Hid (Rd wr wr.heap.size AL k (fun j => .int .i64 (X j))) := Lib.hid (by have := Rd.of_own HT.out.1 (fun j hj => rowI_at X k j hj); rwa [Nat.mul_one] at this)
      have HRG : Hid (Rd wr wr.heap.size AG k (fun j => .int .i64 (Y j))) := Lib.hid (by have := Rd.of_own HT.out.2.1 (fun j hj => rowI_at Y k j hj); rwa [Nat.mul_one] at this)
      have HX : Hid (∀ j, j < k → 0 ≤ X j ∧ X j ≤ 1073741824) := Lib.hid fun j hj => (rt_iff.1 (rtN_at k HK.out j hj)).1
      have HY : Hid (∀ j, j < k → 0 ≤ Y j ∧ Y j ≤ 1073741824) := Lib.hid fun j hj => (rt_iff.1 (rtN_at k HK.out j hj)).2.1
      go_wp2_with fail
      refine (total_26 AL k cL wr.heap.size X _ (by omega) HRL.out HX.out).mono ?_
      rintro e wa ⟨rfl, rfl⟩
      go_wp2_with fail
      refine (total_26 AG k cG wr.heap.size Y _ (by omega) HRG.out HY.out).mono ?_
      rintro e wa ⟨rfl, rfl⟩
      have HEV : Hid (mixE k X Y = if (inB 1073741824 (sm X k) && inB 1073741824 (sm Y k)) = true then 0 else 430) := Lib.hid (by
        rw [mixE, if_neg hn]
        by_cases h : (inB 1073741824 (sm X k) && inB 1073741824 (sm Y k)) = true
        · rw [if_pos h, if_pos ⟨HK.out, by simpa using h⟩]
        · rw [if_neg h, if_neg]
          rintro ⟨_, h1, h2⟩
          exact h (by rw [h1, h2]; rfl))
      generalize hsx : sm X k = sx at HEV ⊢
      generalize hsy : sm Y k = sy at HEV ⊢
      have HSX := Lib.hid hsx
      have HSY := Lib.hid hsy
      clear hsx hsy
      go_upto_region 12 with fail
      obtain ⟨w5, hw5⟩ : ∃ zz, zz = wr.alloc (.cells #[.int .i64 sx, .int .i64 sy] 24) := ⟨_, rfl⟩
      have HM5 : Hid (Blk w5 wr.heap.size 24 #[.int .i64 sx, .int .i64 sy]) := Lib.hid (hw5 ▸ Blk.new _ _ _)
      have HF5 := Lib.hid (show Blk w5 w.heap.size 24 #[.int .i64 0, .int .i64 0] from hw5 ▸ HFr.out.alloc _)
      have HB5 := Lib.hid (show Below w.heap.size w w5 from hw5 ▸ HBr.out.alloc (by omega) _)
      rw [← hw5]
      clear hw5
      have m0 : w5.cell? ⟨wr.heap.size, 0, none⟩ = some (.int .i64 sx) := HM5.out.cell 0
      have m1 : w5.cell? ⟨wr.heap.size, 1, none⟩ = some (.int .i64 sy) := HM5.out.cell 1
      have hm5 := HM5.out.lt
      go_wp2_with fail
      refine (limited_two _ _ _ _ (by simp)).mono ?_
      rintro e w6 ⟨rfl, hw6⟩
      have hb6 : Below w5.heap.size w5 w6 := hw6 ▸ below_alloc _ _
      have HM6 := Lib.hid (HM5.out.below hb6 hm5)
      have HF6 := Lib.hid (HF5.out.below hb6 (by omega))
      have HB6 := Lib.hid (HB5.out.trans (hb6.mono (by omega)))
      clear hw6 hb6 m0 m1
      have m0 : w6.cell? ⟨wr.heap.size, 0, none⟩ = some (.int .i64 sx) := HM6.out.cell 0
      have m1 : w6.cell? ⟨wr.heap.size, 1, none⟩ = some (.int .i64 sy) := HM6.out.cell 1
      have r0 : w6.cell? ⟨w.heap.size, 0, none⟩ = some (.int .i64 0) := HF6.out.cell 0
      have r1 : w6.cell? ⟨w.heap.size, 1, none⟩ = some (.int .i64 0) := HF6.out.cell 1
      have f0 := HF6.out.frozen 0
      have f1 := HF6.out.frozen 1
      cases h1 : (inB 1073741824 sx && inB 1073741824 sy)
      · have HE : Hid (mixE k X Y = 430) := Lib.hid (by rw [HEV.out, h1]; rfl)
        clear h1
        go_wp2_with fail
        refine bodyPost_ret (results_row2 rfl _ _ _ 24 _ (0, 0) _ rfl ((HF6.out.set_ 0 (.int .i64 0)).set_ 1 (.int .i64 0)) Try.underlying24 rfl (by kernel_rfl)) rfl ?_
        exact ⟨ret_val (by rw [HE.out]; simp [wtE, orZ]), (HB6.out.setCell (p := ⟨w.heap.size, 0, none⟩) (by simp) _).setCell (p := ⟨w.heap.size, 1, none⟩) (by simp) _⟩
      · have HE : Hid (mixE k X Y = 0) := Lib.hid (by rw [HEV.out, h1]; rfl)
        clear h1
        go_wp2_with fail
        refine bodyPost_ret (results_row2 rfl _ _ _ 24 _ (0, 0) _ rfl ((HF6.out.set_ 0 (.int .i64 sx)).set_ 1 (.int .i64 sy)) Try.underlying24 rfl (by kernel_rfl)) rfl ?_
        exact ⟨ret_val (by rw [HE.out, HSX.out, HSY.out]; simp [wtE, orZ]), (HB6.out.setCell (p := ⟨w.heap.size, 0, none⟩) (by simp) _).setCell (p := ⟨w.heap.size, 1, none⟩) (by simp) _⟩
end Go.Proofs.Ythmebjbaigiehaa
