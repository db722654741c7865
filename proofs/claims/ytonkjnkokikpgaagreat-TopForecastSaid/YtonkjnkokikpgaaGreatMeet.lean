/- Meet: the clone of ranges, its closures, the rows it writes. Contract of ensembles.Meet. -/
import Derived.Test.YtonkjnkokikpgaaGreatWiden
import Derived.Shelf.SlicesE.Clone
namespace Go.Proofs
def Tryz.laysSlE041_f26_ren : Go.Shelf.Ren := ⟨fun | 41 => 26 | n => n, fun | 22 => 41 | 23 => 53 | 4 => 4 | n => n, fun | n => n⟩
theorem Tryz.laysSlE041_f26 : Go.Proofs.SlLaysE0.n41 Tryz.prog Tryz.laysSlE041_f26_ren := {
  mixed := by kernel_rfl
  f41 := ⟨Tryz.f26.name, by decide, Tryz.func26.trans (congrArg some (by kernel_rfl))⟩
  t4 := Tryz.underlying4
  a4 := Tryz.isAgg4
  z4 := Tryz.sizeOf4
  v4 := Tryz.zeroValue4
  t22 := Tryz.underlying41
  a22 := Tryz.isAgg41
  z22 := Tryz.sizeOf41
  v22 := Tryz.zeroValue41 }
end Go.Proofs
namespace Go.Proofs.YtonkjnkokikpgaaGreat
open Go.RowKit Go.Lib

theorem clone_26 (b off n c : Nat) (f : Nat → Int × Int) (w : World) (hn : n ≤ 1000) (hc : ∀ j, j < n * 2 → w.cell? ⟨b, off + j, none⟩ = some (rsc f j)) :
    Calls Tryz.prog 26 #[.slice (some ⟨b, off, none⟩) n c] w fun e w' => ∃ v', e = .returned v' ∧ w'.ownsRow w.heap.size 53 2 v' n (rowR f n) ∧ Below w.heap.size w w' := by
  obtain ⟨i0, hif, hz0, hz1, hz2⟩ := info_parts info48
  refine (AnyE.slices_Clone Tryz.laysSlE041_f26 i0 (.agg #[.int .i64 0, .int .i64 0]) 2 16 hif hz0 hz1 hz2 rfl (by decide) Tryz.sizeOf53 b off n c (rowR f n) w (by simp [rowR]) (by unfold maxLen; omega) (by omega) (fun j u hu => ?_) (fun u hu => ?_)).mono ?_
  · unfold rowR at hu
    have hj : j < n * 2 := by
      rcases Nat.lt_or_ge j (n * 2) with h | h
      · exact h
      · rw [List.getElem?_eq_none (by simpa using h)] at hu; cases hu
    rw [hc j hj, ← hu]
    simp [hj]
  · unfold rowR at hu
    obtain ⟨j, _, rfl⟩ := List.mem_map.1 hu
    unfold rsc
    split <;> rfl
  · rintro e w' ⟨v', h1, h2, _, h4⟩
    exact ⟨v', h1, h2, h4⟩

/-- a row of ranges that is written -/
def RowM (W : World) (g n : Nat) (f : Nat → Int × Int) : Prop := ∃ cur, Blk W g 53 cur ∧ n * 2 ≤ cur.size ∧ ∀ j, j < n → cur[j * 2]? = some (.int .i64 (f j).1) ∧ cur[j * 2 + 1]? = some (.int .i64 (f j).2)
theorem RowM.of_own {W : World} {base n : Nat} {v : Value} {f : Nat → Int × Int} (hn : 0 < n) (h : W.ownsRow base 53 2 v n (rowR f n)) : ∃ g cap, v = .slice (some ⟨g, 0, none⟩) n cap ∧ base ≤ g ∧ g < W.heap.size ∧ RowM W g n f := by
  rcases h.2 with ⟨_, h0⟩ | ⟨g, cap, cur, hv, hbg, hg, hle, _, hcs, htake⟩
  · omega
  · have hat : ∀ j, j < n * 2 → cur[j]? = some (rsc f j) := fun j hj => by
      have h1 : (rowR f n)[j]? = some (rsc f j) := by simp [rowR, hj]
      rw [← htake, List.getElem?_take, if_pos hj] at h1
      simpa using h1
    have hb : Blk W g 53 cur := hg
    refine ⟨g, cap, hv, hbg, hb.lt, cur, hb, by rw [hcs]; exact Nat.mul_le_mul_right 2 hle, fun j hj => ⟨?_, ?_⟩⟩
    · rw [hat _ (by omega), rsc_0]
    · rw [hat _ (by omega), rsc_1]
theorem RowM.rd {W : World} {g n : Nat} {f : Nat → Int × Int} (h : RowM W g n f) : Rd W W.heap.size (some ⟨g, 0, none⟩) (n * 2) (rsc f) := fun _ => by
  obtain ⟨cur, hb, _, hc⟩ := h
  refine ⟨g, 0, rfl, hb.lt, fun j hj => ?_⟩
  rw [hb.cell, Nat.zero_add]
  obtain ⟨a, b⟩ := hc (j / 2) (by omega)
  unfold rsc
  split
  · rename_i e; rw [← a]; congr 1; omega
  · rename_i e; rw [← b]; congr 1; omega
theorem RowM.alloc {W : World} {g n : Nat} {f : Nat → Int × Int} (h : RowM W g n f) (o : Obj) : RowM (W.alloc o) g n f := by
  obtain ⟨cur, hb, h2, hc⟩ := h
  exact ⟨cur, hb.alloc o, h2, hc⟩
theorem RowM.below {W W' : World} {g n B : Nat} {f : Nat → Int × Int} (h : RowM W g n f) (hb' : Below B W W') (hg : g < B) : RowM W' g n f := by
  obtain ⟨cur, hb, h2, hc⟩ := h
  exact ⟨cur, hb.below hb' hg, h2, hc⟩
/-- one range anew -/
def updR (f : Nat → Int × Int) (k : Nat) (a b : Int) (j : Nat) : Int × Int := if j = k then (a, b) else f j
theorem RowM.set_ {W : World} {g n k : Nat} {f : Nat → Int × Int} (h : RowM W g n f) (hk : k < n) (a b : Int) : RowM ((W.setCell ⟨g, k * 2, none⟩ (.int .i64 a)).setCell ⟨g, k * 2 + 1, none⟩ (.int .i64 b)) g n (updR f k a b) := by
  obtain ⟨cur, hb, h2, hc⟩ := h
  refine ⟨_, (hb.set_ _ _).set_ _ _, by simpa using h2, fun j hj => ?_⟩
  unfold updR
  by_cases e : j = k
  · subst e
    rw [if_pos rfl]
    exact ⟨by rw [set_off _ (by omega)]; exact set_at _ (by omega), set_at _ (by simp; omega)⟩
  · rw [if_neg e, set_off _ (by omega), set_off _ (by omega), set_off _ (by omega), set_off _ (by omega)]
    exact hc j hj
theorem RowM.cells {W : World} {g n k : Nat} {f : Nat → Int × Int} (h : RowM W g n f) (hk : k < n) : W.cell? ⟨g, k * 2, none⟩ = some (.int .i64 (f k).1) ∧ W.cell? ⟨g, k * 2 + 1, none⟩ = some (.int .i64 (f k).2) ∧ W.frozen? ⟨g, k * 2, none⟩ = false ∧ W.frozen? ⟨g, k * 2 + 1, none⟩ = false := by
  obtain ⟨cur, hb, h2, hc⟩ := h
  refine ⟨by rw [hb.cell]; exact (hc k hk).1, by rw [hb.cell]; exact (hc k hk).2, hb.frozen _, hb.frozen _⟩

set_option maxRecDepth 100000 in
theorem clos_23 (A : Option Addr) (n c : Nat) (w : World) : Calls Tryz.prog 23 #[.slice A n c] w fun e w' => e = .returned (.bool (decide (16 < (n : Int)))) ∧ Below w.heap.size w w' := by
  go_enter Tryz.func23, Tryz.ntmps23
  go_wp2_with fail
  go_ret
  exact ⟨rfl, Below.refl _ _⟩
set_option maxRecDepth 100000 in
theorem clos_27 (l h : Int) (w : World) : Calls Tryz.prog 27 #[.agg #[.int .i64 l, .int .i64 h]] w fun e w' => e = .returned (.bool (decide (h < l))) ∧ Below w.heap.size w w' := by
  obtain ⟨w0, hw0⟩ : ∃ zz, zz = w.alloc (.cells #[.int .i64 l, .int .i64 h] 53) := ⟨_, rfl⟩
  have HK0 : Hid (Blk w0 w.heap.size 53 #[.int .i64 l, .int .i64 h]) := Lib.hid (hw0 ▸ Blk.new _ _ _)
  have HB0 : Hid (Below w.heap.size w w0) := Lib.hid (hw0 ▸ below_alloc _ _)
  have c0 : w0.cell? ⟨w.heap.size, 0, none⟩ = some (.int .i64 l) := HK0.out.cell 0
  have c1 : w0.cell? ⟨w.heap.size, 1, none⟩ = some (.int .i64 h) := HK0.out.cell 1
  have HW := Lib.hid hw0
  clear hw0
  go_enter Tryz.func27, Tryz.ntmps27
  go_upto_region 1 with fail
  rw [← HW.out]
  clear HW
  go_wp2_with fail
  go_ret
  exact ⟨rfl, HB0.out⟩
set_option maxRecDepth 100000 in
theorem clos_25 (l h : Int) (w : World) : Calls Tryz.prog 25 #[.agg #[.int .i64 l, .int .i64 h]] w fun e w' => e = .returned (.bool (!ri4 0 l h 1099511627776)) ∧ Below w.heap.size w w' := by
  obtain ⟨w0, hw0⟩ : ∃ zz, zz = w.alloc (.cells #[.int .i64 l, .int .i64 h] 53) := ⟨_, rfl⟩
  have HK0 : Hid (Blk w0 w.heap.size 53 #[.int .i64 l, .int .i64 h]) := Lib.hid (hw0 ▸ Blk.new _ _ _)
  have HB0 : Hid (Below w.heap.size w w0) := Lib.hid (hw0 ▸ below_alloc _ _)
  have c0 : w0.cell? ⟨w.heap.size, 0, none⟩ = some (.int .i64 l) := HK0.out.cell 0
  have c1 : w0.cell? ⟨w.heap.size, 1, none⟩ = some (.int .i64 h) := HK0.out.cell 1
  have HW := Lib.hid hw0
  clear hw0
  go_enter Tryz.func25, Tryz.ntmps25
  go_upto_region 1 with fail
  rw [← HW.out]
  clear HW
  by_cases h1 : l < 0
  · have h1d : decide (l < 0) = true := by simpa using h1
    have H1 : Hid ((!ri4 0 l h 1099511627776) = true) := Lib.hid (by rw [Bool.not_eq_true', ← Bool.not_eq_true, ri4_iff]; omega)
    go_wp2_with fail
    go_ret
    exact ⟨ret_bool H1.out.symm, HB0.out⟩
  have h1d : decide (l < 0) = false := by simpa using h1
  by_cases h2 : h < l
  · have h2d : decide (h < l) = true := by simpa using h2
    have H1 : Hid ((!ri4 0 l h 1099511627776) = true) := Lib.hid (by rw [Bool.not_eq_true', ← Bool.not_eq_true, ri4_iff]; omega)
    go_wp2_with fail
    go_ret
    exact ⟨ret_bool H1.out.symm, HB0.out⟩
  have h2d : decide (h < l) = false := by simpa using h2
  by_cases h3 : 1099511627776 < h
  · have h3d : decide (1099511627776 < h) = true := by simpa using h3
    have H1 : Hid ((!ri4 0 l h 1099511627776) = true) := Lib.hid (by rw [Bool.not_eq_true', ← Bool.not_eq_true, ri4_iff]; omega)
    go_wp2_with fail
    go_ret
    exact ⟨ret_bool H1.out.symm, HB0.out⟩
  · have h3d : decide (1099511627776 < h) = false := by simpa using h3
    have H1 : Hid ((!ri4 0 l h 1099511627776) = false) := Lib.hid (by rw [Bool.not_eq_false', ri4_iff]; omega)
    go_wp2_with fail
    go_ret
    exact ⟨ret_bool H1.out.symm, HB0.out⟩
theorem eg_23 : ∀ args w, (callFunc 23 args).run Tryz.prog w = .ok (.enter 23 args) w := enters_of Tryz.func23 (by kernel_rfl) rfl
theorem eg_25 : ∀ args w, (callFunc 25 args).run Tryz.prog w = .ok (.enter 25 args) w := enters_of Tryz.func25 (by kernel_rfl) rfl
theorem eg_27 : ∀ args w, (callFunc 27 args).run Tryz.prog w = .ok (.enter 27 args) w := enters_of Tryz.func27 (by kernel_rfl) rfl
end Go.Proofs.YtonkjnkokikpgaaGreat
namespace Go.Proofs.YtonkjnkokikpgaaGreat
open Go.RowKit

/-- lists of ranges, all of one length -/
def RgsRd (w : World) (B : Nat) (A : Option Addr) (n P : Nat) (rA : Nat → Option Addr) (rc : Nat → Nat) (rf : Nat → Nat → Int × Int) : Prop :=
  Rd w B A n (fun j => .slice (rA j) P (rc j)) ∧ ∀ j, j < n → Rd w B (rA j) (P * 2) (rsc (rf j))
theorem RgsRd.below {w w' : World} {B : Nat} {A : Option Addr} {n P : Nat} {rA : Nat → Option Addr} {rc : Nat → Nat} {rf : Nat → Nat → Int × Int} (h : RgsRd w B A n P rA rc rf) (hb : Below B w w') : RgsRd w' B A n P rA rc rf :=
  ⟨h.1.below hb, fun j hj => (h.2 j hj).below hb⟩
/-- the bounds are taken from the lists -/
def MtF (n P : Nat) (rf : Nat → Nat → Int × Int) (f : Nat → Int × Int) : Prop := ∀ t, t < P → (∃ j, j < n ∧ (f t).1 = (rf j t).1) ∧ ∃ j, j < n ∧ (f t).2 = (rf j t).2
theorem MtF.set_ {n P k t : Nat} {rf : Nat → Nat → Int × Int} {f : Nat → Int × Int} {a b : Int} (h : MtF n P rf f) (hk : k < n) (ht : t < P) (ha : a = (f t).1 ∨ a = (rf k t).1) (hb : b = (f t).2 ∨ b = (rf k t).2) : MtF n P rf (updR f t a b) := fun u hu => by
  unfold updR
  by_cases e : u = t
  · subst e
    rw [if_pos rfl]
    refine ⟨?_, ?_⟩
    · rcases ha with ha | ha
      · rw [ha]; exact (h u hu).1
      · exact ⟨k, hk, ha⟩
    · rcases hb with hb | hb
      · rw [hb]; exact (h u hu).2
      · exact ⟨k, hk, hb⟩
  · rw [if_neg e]; exact h u hu
/-- what Meet hands back, where all lists are right and of one length -/
def MetR (H n P : Nat) (rf : Nat → Nat → Int × Int) (e : Ending) (w' : World) : Prop :=
  (n = 0 ∧ e = .returned (.tuple #[.slice none 0 0, .bool false, .int .i64 360])) ∨ (0 < n ∧ e = .returned (.tuple #[.slice none 0 0, .bool false, .int .i64 0])) ∨
  ∃ (g dc : Nat) (f : Nat → Int × Int), 0 < n ∧ e = .returned (.tuple #[.slice (some ⟨g, 0, none⟩) P dc, .bool true, .int .i64 0]) ∧ H ≤ g ∧ MtF n P rf f ∧ (∀ t, t < P → (f t).1 ≤ (f t).2) ∧ Rd w' w'.heap.size (some ⟨g, 0, none⟩) (P * 2) (rsc f)
theorem results_tmp3' {fn : Func} {p q r : Tmp} (h : fn.results = #[.tmp p, .tmp q, .tmp r]) (tmps : Array Value) (w : World) : (results fn tmps).run Tryz.prog w = .ok (.tuple #[tmps.getD p undef, tmps.getD q undef, tmps.getD r undef]) w := by
  simp [results, h, go_sem]

set_option maxRecDepth 100000 in
set_option maxHeartbeats 2000000 in
theorem Meet_9 (A : Option Addr) (n c P B : Nat) (rA : Nat → Option Addr) (rc : Nat → Nat) (rf : Nat → Nat → Int × Int) (w : World) (hn : n ≤ 64) (hnc : n ≤ c) (hB : B ≤ w.heap.size) (hr : RgsRd w B A n P rA rc rf) (hg : ∀ j, j < n → rgB P (rf j) = true) :
    Calls Tryz.prog 9 #[.slice A n c] w fun e w' => MetR w.heap.size n P rf e w' ∧ Below w.heap.size w w' := by
  have HR := Lib.hid hr
  have HG := Lib.hid hg
  have HM0 : Hid (n = 0 → ∀ w', MetR w.heap.size n P rf (.returned (.tuple #[.slice none 0 0, .bool false, .int .i64 360])) w') := Lib.hid fun h w' => .inl ⟨h, rfl⟩
  have HM1 : Hid (0 < n → ∀ w', MetR w.heap.size n P rf (.returned (.tuple #[.slice none 0 0, .bool false, .int .i64 0])) w') := Lib.hid fun h w' => .inr (.inl ⟨h, rfl⟩)
  have HM2 : Hid (0 < n → ∀ g dc f w', w.heap.size ≤ g → MtF n P rf f → (∀ t, t < P → (f t).1 ≤ (f t).2) → Rd w' w'.heap.size (some ⟨g, 0, none⟩) (P * 2) (rsc f) → MetR w.heap.size n P rf (.returned (.tuple #[.slice (some ⟨g, 0, none⟩) P dc, .bool true, .int .i64 0])) w') := Lib.hid fun h g dc f w' h0 h1 h2 h3 => .inr (.inr ⟨g, dc, f, h, rfl, h0, h1, h2, h3⟩)
  have HA := Lib.hid (any_22 A n c B 23 #[] rA (fun _ => P) rc (fun j => decide (16 < (P : Int))) w eg_23 (by omega) hB hr.1 (fun j _ W _ => clos_23 (rA j) P (rc j) W))
  clear hr hg
  have h64 : ¬ ((64 : Int) < (n : Int)) := by omega
  have h64d : decide ((64 : Int) < (n : Int)) = false := by simpa using h64
  have HAN : anyB (fun _ => decide (16 < (P : Int))) n = false := anyB_false.2 fun j hj => by
    have := (rgB_iff.1 (HG.out j hj)).1
    rw [decide_eq_false_iff_not]
    omega
  rw [HAN] at HA
  clear h64 HAN
  go_enter Tryz.func9, Tryz.ntmps9
  go_wp2_with fail
  refine HA.out.mono ?_
  rintro e w1 ⟨rfl, hb⟩
  have HB1 := Lib.hid hb
  clear hb HA
  by_cases h0 : n = 0
  · subst h0
    have hd : (((0 : Nat) : Int) == 0) = true := by decide
    go_wp2_with fail
    refine bodyPost_ret (results_tmp3' rfl _ _) rfl ?_
    exact ⟨HM0.out (by simp) _, HB1.out⟩
  have h0d : ((n : Int) == 0) = false := by simpa using h0
  have hn0 : 0 < n := by omega
  have hn0' : (0 : Int) < (n : Int) := by omega
  have hnn : (n : Int) ≠ 0 := by omega
  clear h0
  obtain ⟨hP1, hP2⟩ := (rgB_iff.1 (HG.out 0 hn0)).1
  have hPP : (P : Int) ≠ 0 := by omega
  have hPd : ((P : Int) == 0) = false := by simpa using hPP
  have hPr : ((P : Int) != (P : Int)) = false := by simp
  obtain ⟨b, o, rfl, _, hc⟩ := (HR.out.below (HB1.out.mono hB)).1 hn0
  have q0 : w1.cell? ⟨b, o, none⟩ = some (.slice (rA 0) P (rc 0)) := hc 0 hn0
  clear hc
  have hz1 := HB1.out.size
  go_wp2_with fail
  clear q0
  go_loopw [30] (fun i wr => ∃ k : Nat, k ≤ n ∧ i = .int .i64 k ∧ Below w1.heap.size w1 wr) (fun i _ => n - (intOf i).toNat)
  case atStart => exact ⟨0, Nat.zero_le _, rfl, Below.refl _ _⟩
  case round =>
    obtain ⟨k, hk, rfl, hb⟩ := hrel
    have HD := Lib.hid hb
    have HBr := Lib.hid (HB1.out.trans (hb.mono hz1))
    clear hb
    have hER := HR.out.below (HBr.out.mono hB)
    obtain ⟨b', o', e0, _, hc⟩ := hER.1 hn0
    injection e0 with e0
    injection e0 with e1 e2
    subst e1 e2
    have q0 : wr.cell? ⟨b, o, none⟩ = some (.slice (rA 0) P (rc 0)) := hc 0 hn0
    by_cases hlt : ¬ k < n
    · have hlt' : ¬ (k : Int) < (n : Int) := by omega
      obtain ⟨b0, o0, hr0, hb0, hc0⟩ := (hER.2 0 hn0) (by omega)
      have HCL := Lib.hid (clone_26 b0 o0 P (rc 0) (rf 0) wr (by omega) hc0)
      rw [hr0] at q0
      clear hc hER hlt hk hc0 hr0 hb0
      go_wp2_with fail
      refine HCL.out.mono ?_
      rintro e w2 ⟨v', rfl, hown, hb⟩
      obtain ⟨g, cap, rfl, hbg, hgl, hrm⟩ := RowM.of_own (by omega) hown
      have HB2 := Lib.hid (HBr.out.trans (hb.mono HBr.out.size))
      have hg0 : w.heap.size ≤ g := Nat.le_trans HBr.out.size hbg
      have HRM := Lib.hid hrm
      clear hown hb hrm hbg HCL q0 HD HBr HB1 hz1
      have hs1 : IntKind.i64.wrap ((n : Int) - 1) = (n : Int) - 1 := IntWalk.i64_in _ ⟨by omega, by omega⟩
      go_upto_region 12 with fail
      go_cut [51, 52, 53] from 50 (fun s1 s2 s3 wc => ∃ A1 c1, s1 = .slice A1 (n - 1) c1 ∧ s2 = .int .i64 ((n : Int) - 1) ∧ s3 = .int .i64 0 ∧ (1 < n → A1 = some ⟨b, o + 1, none⟩) ∧ wc = w2)
      case first =>
        have hn1 : ((n - 1 : Nat) : Int) = (n : Int) - 1 := by omega
        have hn1' : (1 : Int) ≤ (n : Int) := by omega
        have hnc' : (n : Int) ≤ (c : Int) := by omega
        by_cases hc1 : c = 1
        · go_wp2_with fail
          go_meet
          case rel => exact ⟨_, _, rfl, rfl, rfl, fun _ => by omega, rfl⟩
        · go_wp2_with fail
          go_meet
          case rel => exact ⟨_, _, rfl, rfl, rfl, fun _ => rfl, rfl⟩
      case rest =>
        obtain ⟨A1, c1, rfl, rfl, rfl, hA1, rfl⟩ := hcut
        obtain ⟨w3, hyy⟩ : ∃ y, y = wc := ⟨_, rfl⟩
        subst hyy
        have HA1 := Lib.hid hA1
        have HMT : Hid (MtF n P rf (rf 0)) := Lib.hid fun t _ => ⟨⟨0, hn0, rfl⟩, 0, hn0, rfl⟩
        clear hA1
        generalize rf 0 = f0 at HRM HMT
        go_wp2_with fail
        go_loopw [53] (fun i wr => ∃ (k : Nat) (f : Nat → Int × Int), k ≤ n - 1 ∧ i = .int .i64 k ∧ Hid (MtF n P rf f) ∧ Hid (RowM wr g P f) ∧ Below w.heap.size w wr) (fun i _ => n - (intOf i).toNat)
        case atStart => exact ⟨0, f0, Nat.zero_le _, rfl, HMT, HRM, HB2.out⟩
        case round =>
          obtain ⟨k', f, hk, rfl, HMF, HRF, hb⟩ := hrel
          have HBr2 := Lib.hid hb
          have hzr := hb.size
          clear hb
          by_cases hlt : ¬ k' < n - 1
          · have hlt' : ¬ (k' : Int) < (n : Int) - 1 := by omega
            have HC := any_24 (some ⟨g, 0, none⟩) P cap wr.heap.size 27 #[] f (fun i => decide ((f i).2 < (f i).1)) wr eg_27 (by omega) (Nat.le_refl _) HRF.out.rd (fun j _ W _ => clos_27 (f j).1 (f j).2 W)
            generalize hq : anyB (fun i => decide ((f i).2 < (f i).1)) P = q at HC
            have HC := Lib.hid HC
            have HQ := Lib.hid hq
            clear hq hlt hk
            go_wp2_with fail
            refine HC.out.mono ?_
            rintro e w4 ⟨rfl, hb⟩
            have HB4 := Lib.hid (HBr2.out.trans (hb.mono hzr))
            have HR4 := Lib.hid (HRF.out.below hb (by obtain ⟨cur, h, _⟩ := HRF.out; exact h.lt))
            clear hb HC
            cases q
            · go_wp2_with fail
              refine bodyPost_ret (results_tmp3' rfl _ _) rfl ?_
              refine ⟨HM2.out hn0 _ _ f _ hg0 HMF.out (fun t ht => ?_) HR4.out.rd, HB4.out⟩
              have := anyB_false.1 HQ.out t ht
              rw [decide_eq_false_iff_not] at this
              omega
            · go_wp2_with fail
              refine bodyPost_ret (results_tmp3' rfl _ _) rfl ?_
              exact ⟨HM1.out hn0 _, HB4.out⟩
          have hlt : k' + 1 < n := by omega
          have hlt' : (k' : Int) < (n : Int) - 1 := by omega
          have hA2 := HA1.out (by omega)
          subst hA2
          have hER := HR.out.below (HBr2.out.mono hB)
          have HRk := Lib.hid (HR.out.2 (k' + 1) hlt)
          obtain ⟨b', o', e0, _, hc⟩ := hER.1 hn0
          injection e0 with e0
          injection e0 with e1 e2
          subst e1 e2
          have qk : wr.cell? ⟨b, o + 1 + k', none⟩ = some (.slice (rA (k' + 1)) P (rc (k' + 1))) := by
            have := hc (k' + 1) hlt
            rwa [show o + (k' + 1) = o + 1 + k' by omega] at this
          clear hc hER HA1 HRM HMT
          generalize rA (k' + 1) = y1 at HRk qk
          generalize rc (k' + 1) = y3 at qk
          go_wp2_with fail
          clear qk
          go_loopw [59] (fun i wq => ∃ (t : Nat) (f2 : Nat → Int × Int), t ≤ P ∧ i = .int .i64 t ∧ Hid (MtF n P rf f2) ∧ Hid (RowM wq g P f2) ∧ Below w.heap.size w wq) (fun i _ => P - (intOf i).toNat)
          case atStart => exact ⟨0, f, Nat.zero_le _, rfl, HMF, HRF, HBr2.out⟩
          case round =>
            obtain ⟨t, f2, ht, rfl, HMF2, HRF2, hb⟩ := hrel
            have HBq := Lib.hid hb
            have hzq := hb.size
            clear hb
            by_cases hlt2 : ¬ t < P
            · have hlt2' : ¬ (t : Int) < (P : Int) := by omega
              go_wp2_with fail
              go_roundw
              case rel => exact ⟨k' + 1, f2, by omega, by go_num, HMF2, HRF2, HBq.out⟩
              case measure => simp [intOf]; omega
            have hlt2 : t < P := by omega
            have hlt2' : (t : Int) < (P : Int) := by omega
            obtain ⟨rb, ro, rfl, _, r0, r1⟩ := rng_at (HRk.out.below (HBq.out.mono hB)) hlt2
            have HMS := Lib.hid (fun a b => HMF2.out.set_ (k := k' + 1) (a := a) (b := b) hlt hlt2)
            have HRS := Lib.hid (fun W (h : RowM W g P f2) a b => h.set_ hlt2 a b)
            have HRC := Lib.hid (fun W (h : RowM W g P f2) => h.cells hlt2)
            generalize (rf (k' + 1) t).1 = x0 at *
            generalize (rf (k' + 1) t).2 = x1 at *
            generalize (f2 t).1 = a0 at *
            generalize (f2 t).2 = a1 at *
            go_upto_region 18 with fail
            obtain ⟨e1, he1⟩ : ∃ zz, zz = wr.alloc (.cells #[.int .i64 x0, .int .i64 x1] 53) := ⟨_, rfl⟩
            have HX1 : Hid (Blk e1 wr.heap.size 53 #[.int .i64 x0, .int .i64 x1]) := Lib.hid (he1 ▸ Blk.new _ _ _)
            have HL1 : Hid (Below w.heap.size w e1) := Lib.hid (he1 ▸ HBq.out.alloc hzq _)
            have HO1 : Hid (RowM e1 g P f2) := Lib.hid (he1 ▸ HRF2.out.alloc _)
            rw [← he1]
            clear he1 r0 r1 HRF2 HBq
            have x00 : e1.cell? ⟨wr.heap.size, 0, none⟩ = some (.int .i64 x0) := HX1.out.cell 0
            have x01 : e1.cell? ⟨wr.heap.size, 1, none⟩ = some (.int .i64 x1) := HX1.out.cell 1
            obtain ⟨z0, z1, z2, z3⟩ := HRC.out e1 HO1.out
            have HMN : Hid (MtF n P rf (updR f2 t (max a0 x0) (min a1 x1))) := Lib.hid (HMS.out _ _ (by omega) (by omega))
            clear HMS
            go_region
            obtain ⟨e2, he2⟩ : ∃ zz, zz = ((e1.setCell ⟨g, t * 2, none⟩ (.int .i64 (max a0 x0))).setCell ⟨g, t * 2 + 1, none⟩ (.int .i64 (min a1 x1))).drew := ⟨_, rfl⟩
            have HO2 : Hid (RowM e2 g P (updR f2 t (max a0 x0) (min a1 x1))) := Lib.hid (by rw [he2]; exact HRS.out e1 HO1.out _ _)
            have HL2 : Hid (Below w.heap.size w e2) := Lib.hid (by rw [he2]; exact (((HL1.out.setCell (p := ⟨g, t * 2, none⟩) (by simpa using hg0) _).setCell (p := ⟨g, t * 2 + 1, none⟩) (by simpa using hg0) _).drew))
            rw [← he2]
            clear he2 HO1 HL1 HX1 x00 x01 z0 z1 z2 z3
            generalize updR f2 t (max a0 x0) (min a1 x1) = f3 at *
            go_wp2_with fail
            go_roundw
            case rel => exact ⟨t + 1, f3, by omega, by go_num, HMN, HO2, HL2.out⟩
            case measure => simp [intOf]; omega
    have hlt : k < n := by omega
    have hlt' : (k : Int) < (n : Int) := by omega
    have qk : wr.cell? ⟨b, o + k, none⟩ = some (.slice (rA k) P (rc k)) := hc k hlt
    have HSN := any_24 (rA k) P (rc k) B 25 #[] (rf k) (fun i => !ri4 0 (rf k i).1 (rf k i).2 1099511627776) wr eg_25 (by omega) (by have := HBr.out.size; omega) (hER.2 k hlt) (fun j _ W _ => clos_25 (rf k j).1 (rf k j).2 W)
    rw [anyB_false.2 (fun j hj => by rw [Bool.not_eq_false', ri4_iff]; exact (rgB_iff.1 (HG.out k hlt)).2 j hj)] at HSN
    have HSN := Lib.hid HSN
    clear hc hER
    generalize rA k = y1 at *
    generalize rc k = y3 at *
    go_wp2_with fail
    refine HSN.out.mono ?_
    rintro e w2 ⟨rfl, hb⟩
    have HD2 := Lib.hid (HD.out.trans (hb.mono HD.out.size))
    clear hb q0 qk
    go_wp2_with fail
    go_roundw
    case rel => exact ⟨k + 1, by omega, by go_num, HD2.out⟩
    case measure => simp [intOf]; omega
end Go.Proofs.YtonkjnkokikpgaaGreat
