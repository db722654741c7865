/- Contract of the law FieldThrough: it returns true for every slice of points, every polynomial and every integer. -/
import Derived.Test.YtklngacahhlhmaaLawsB
import Derived.Test.YtklngacahhlhmaaAtC
namespace Go.Proofs.Ytklngacahhlhmaa
open Go.RowKit
open Pl (inv eQ Cg sumN prodN lagr IsP Dist)

theorem pow_isP : ∀ k : Nat, IsP (k + 1) (fun t => t ^ k)
  | 0 => ⟨[1], by simp, fun t => Pl.Cg.of_eq (by simp [Pl.ev])⟩
  | k + 1 => (pow_isP k).shift.congr fun t => Pl.Cg.of_eq (by rw [Int.pow_succ, Int.mul_comm])
theorem vN_isP (c : Nat → Int) : ∀ n, IsP n (fun t => vN c t n)
  | 0 => IsP.zero 0
  | n + 1 => ((vN_isP c n).mono (by omega)).add ((pow_isP n).smul (c n))

theorem vAt_own {n : Nat} {X : Nat → Int} (Y : Nat → Int) (h : n ≤ 64) (hd : distB X n = true) {k : Nat} (hk : k < n) : vAt n X Y (X k) = Y k % 1073741789 := by
  unfold vAt
  rw [if_neg (by omega), if_pos hd, Pl.cg_iff]
  exact Pl.lagr_at Y (distB_iff.1 hd) hk
theorem vAt_poly {n m : Nat} {X Y : Nat → Int} {f : Nat → Int} (h : n ≤ 64) (hd : distB X n = true) (hm : m ≤ n) (hY : ∀ k, k < n → Cg (Y k) (vN f (X k) m)) (t : Int) : vAt n X Y t = vN f t m % 1073741789 := by
  unfold vAt
  rw [if_neg (by omega), if_pos hd, Pl.cg_iff]
  exact Pl.unique (distB_iff.1 hd) (Pl.lagr_isP n X Y) ((vN_isP f m).mono hm) (fun i hi => (Pl.lagr_at Y (distB_iff.1 hd) hi).trans (hY i hi)) t
theorem eAt_ok {n : Nat} {X : Nat → Int} (h : n ≤ 64) (hd : distB X n = true) : eAt n X = 0 := by
  unfold eAt
  rw [if_neg (by omega), if_pos hd]

/-- the cells of n points -/
def rowP (X Y : Nat → Int) (n : Nat) : List Value := (List.range (n * 2)).map (ptc X Y)
theorem rowP_succ (X Y : Nat → Int) (k : Nat) : rowP X Y k ++ [.int .i64 (X k), .int .i64 (Y k)] = rowP X Y (k + 1) := by
  unfold rowP
  rw [Nat.add_mul, Nat.one_mul, List.range_succ, List.range_succ]
  simp only [List.map_append, List.map_cons, List.map_nil, List.append_assoc, List.cons_append, List.nil_append]
  rw [ptc_x, ptc_y]
theorem rowP_at (X Y : Nat → Int) (n j : Nat) (h : j < n * 2) : (rowP X Y n)[j]? = some (ptc X Y j) := by simp [rowP, h]
theorem cell_two_new (w : World) (x y : Value) (t : TypeId) : ∀ j u, [x, y][j]? = some u → (w.alloc (.cells #[x, y] t)).cell? ((⟨w.heap.size, 0, none⟩ : Addr).add j) = some u := by
  intro j u hj
  match j, hj with
  | 0, hj => simp at hj; subst hj; simp [Addr.add]
  | 1, hj => simp at hj; subst hj; simp [Addr.add]

theorem cell_heap {w w' : World} {i : Nat} (h : w'.heap[i]? = w.heap[i]?) (o : Nat) : w'.cell? ⟨i, o, none⟩ = w.cell? ⟨i, o, none⟩ := by
  unfold World.cell?
  rw [h]

theorem wp_append_own {P : Program} {o : Oper} {a : Act} {Q : Exit → Act → World → Prop} {K : Act → World → Prop} {w : World} (s x : Operand) (t : TypeId)
    (ho : o.op = .call { callee := .builtin .append, args := #[s, x], argTypes := #[t, t] })
    (base : Nat) (e : TypeId) (i : TypeInfo) (z : Value) (size bytes : Nat) (ht : P.underlying t = some (.slice e)) (hi : P.info? e = some i) (hz : i.zero = some z)
    (hsize : i.size = size) (hby : i.bytes = bytes) (hzs : z.cells.size = size) (hsz : 0 < size)
    (v : Value) (n : Nat) (xs : List Value) (hs : a.eval s = v) (hown : w.ownsRow base e size v n xs)
    (ad : Addr) (m c : Nat) (news : List Value) (hx : a.eval x = .slice (some ad) m c) (hl : news.length = m * size) (hnews : ∀ j u, news[j]? = some u → w.cell? (ad.add j) = some u) (h1 : ∀ u ∈ news, u.oneCell' = true)
    (h63 : n + m ≤ maxLen) (hbytes : (n + m) * bytes ≤ 140737488355328) (hbase : base ≤ w.heap.size)
    (h : ∀ v' w', w'.ownsRow base e size v' (n + m) (xs ++ news) → w.grownBy w' v.ownBlock → (v'.ownBlock = v.ownBlock ∨ v'.ownBlock = some w.heap.size) → K (a.put o.dst v') w') :
    Oper.wp P o a w K Q := by
  obtain ⟨v', w', hr, h2, h3, h4, h5⟩ := run_append_own_at (P := P) w base t o.type e i z size bytes ht hi hz hsize hby hzs hsz v n xs hown ad m c news hl hnews h1 h63 hbytes hbase
  unfold Oper.wp execOp
  simp only [ho, resolve, invoke, builtin, Sem.run_bind, Sem.run_pure, Result.andThen_ok, List.map_toArray, List.map_cons, List.map_nil, hs, hx, hr]
  exact h v' w' h2 h3 h5

attribute [local go_sem] Oper.semAt_some
set_option maxRecDepth 100000 in
set_option maxHeartbeats 4000000 in
theorem through_6 (A A' : Option Addr) (n c n' c' B : Nat) (X Y f : Nat → Int) (t : Int) (w : World) (hm : n ≤ 9223372036854775807) (hm' : n' ≤ 9223372036854775807) (hB : B ≤ w.heap.size)
    (hr : RdP w B A n X Y) (hr' : Rd w B A' n' (fun j => .int .i64 (f j))) (hx : ∀ j, I64 (X j)) (hy : ∀ j, I64 (Y j)) (hf : ∀ j, I64 (f j)) (ht : I64 t) :
    Calls Try.prog 6 #[.slice A n c, .slice A' n' c', .int .i64 t] w fun e w' => e = .returned (.bool true) ∧ Below w.heap.size w w' := by
  have HF := Lib.hid hf
  have HX := Lib.hid hx
  have HY := Lib.hid hy
  have HT := Lib.hid ht
  have HR := Lib.hid hr
  have HR' := Lib.hid hr'
  obtain ⟨i0, hi, hz0, hz1, hz2⟩ := info_parts info38
  clear hf hx hy ht hr hr'
  by_cases hn : 64 < n
  · have hn' : (64 : Int) < n := by omega
    go_enter Try.func6, Try.ntmps6
    go_wp2_with fail
    refine (sane_9 _).mono ?_
    rintro e w1 ⟨rfl, hb1⟩
    have B1 := Lib.hid hb1
    clear hb1
    go_wp2_with fail
    all_goals (go_ret; exact ⟨rfl, B1.out⟩)
  have hn1 : (n : Int) ≤ 64 := by omega
  by_cases hd : distB X n = true
  case neg =>
    have HD := Lib.hid (by simpa using hd : distB X n = false)
    clear hd
    go_enter Try.func6, Try.ntmps6
    go_wp2_with fail
    refine (sane_9 _).mono ?_
    rintro e w1 ⟨rfl, hb1⟩
    have B1 := Lib.hid hb1
    clear hb1
    go_wp2_with fail
    refine (diff_24 A n c B X Y _ (by omega) (Rd.below HR.out (B1.out.mono hB)) (fun j _ => HX.out j)).mono ?_
    rintro e w2 ⟨rfl, hm2⟩
    have B2 := Lib.hid (below_quiet B1.out hm2)
    clear hm2
    rw [HD.out]
    go_wp2_with fail
    all_goals (go_ret; exact ⟨rfl, B2.out⟩)
  have HD := Lib.hid hd
  clear hd
  by_cases hn2 : n < n'
  · have hn3 : (n : Int) < n' := by omega
    go_enter Try.func6, Try.ntmps6
    go_wp2_with fail
    refine (sane_9 _).mono ?_
    rintro e w1 ⟨rfl, hb1⟩
    have B1 := Lib.hid hb1
    clear hb1
    go_wp2_with fail
    refine (diff_24 A n c B X Y _ (by omega) (Rd.below HR.out (B1.out.mono hB)) (fun j _ => HX.out j)).mono ?_
    rintro e w2 ⟨rfl, hm2⟩
    have B2 := Lib.hid (below_quiet B1.out hm2)
    clear hm2
    rw [HD.out]
    go_wp2_with fail
    all_goals (go_ret; exact ⟨rfl, B2.out⟩)
  have hn3 : (n' : Int) ≤ n := by omega
  have HE := Lib.hid (eAt_ok (by omega) HD.out)
  go_enter Try.func6, Try.ntmps6
  go_wp2_with fail
  refine (sane_9 _).mono ?_
  rintro e w1 ⟨rfl, hb1⟩
  have B1 := Lib.hid hb1
  clear hb1
  go_wp2_with fail
  refine (diff_24 A n c B X Y _ (by omega) (Rd.below HR.out (B1.out.mono hB)) (fun j _ => HX.out j)).mono ?_
  rintro e w2 ⟨rfl, hm2⟩
  have B2 := Lib.hid (below_quiet B1.out hm2)
  clear hm2
  rw [HD.out]
  go_wp2_with fail
  have hBw : B ≤ w2.heap.size := Nat.le_trans hB B2.out.size
  have HR2 : Hid (RdP w2 B A n X Y) := Lib.hid (Rd.below HR.out (B2.out.mono hB))
  have HR2' : Hid (Rd w2 B A' n' (fun j => .int .i64 (f j))) := Lib.hid (Rd.below HR'.out (B2.out.mono hB))
  go_loopw [7, 33] (fun s i wr => ∃ k : Nat, k ≤ n ∧ i = .int .i64 k ∧ wr.ownsRow w2.heap.size 38 2 s k (rowP X (fun j => vN f (X j) n' % 1073741789) k) ∧ Below w2.heap.size w2 wr) (fun _ i _ => n - (intOf i).toNat)
  case atStart => exact ⟨0, by omega, rfl, World.ownsRow_nil _ _ _ _, Below.refl _ _⟩
  case round =>
    obtain ⟨k, hk, rfl, hs, hb⟩ := hrel
    have HS := Lib.hid hs
    have HBL := Lib.hid hb
    have hsz := hb.size
    clear hs hb
    by_cases hlt : k < n
    · obtain ⟨b, off, rfl, hbB, c1, c2⟩ := RdP.at_ (Rd.below HR2.out (HBL.out.mono hBw)) hlt
      have HXK := Lib.hid (HX.out k)
      have HYK := Lib.hid (HY.out k)
      have HV := Lib.hid (vAt_own Y (by omega) HD.out hlt)
      have hkn : (k : Int) < n := by omega
      have hbb : b < wr.heap.size := World.block_lt_of_cell? _ _ c1
      go_wp2_with fail
      refine (at_19 _ n c B X Y _ _ hm (by simp; omega) (fun _ => Rd.alloc (Rd.below HR2.out (HBL.out.mono hBw)) (by omega) _) HX.out HY.out HXK.out).mono ?_
      rintro e w3 ⟨rfl, hb3⟩
      rw [HV.out, HE.out]
      have cX : w3.cell? ⟨wr.heap.size, 0, none⟩ = some (.int .i64 (X k)) := by rw [hb3.cell (by simp)]; simp
      have cY : w3.cell? ⟨wr.heap.size, 1, none⟩ = some (.int .i64 (Y k)) := by rw [hb3.cell (by simp)]; simp
      have HB3 := Lib.hid ((HBL.out.trans (Below.mono (below_alloc _ _) hsz)).trans (hb3.mono (by simp; omega)))
      have HS3 := Lib.hid (own_below (HS.out.alloc _) hb3)
      have hsz3 := HB3.out.size
      clear hb3
      go_wp2_with fail
      refine (mod_12 _ _ HYK.out).mono ?_
      rintro e w' ⟨rfl, rfl⟩
      go_wp2_with fail
      rename_i hNext
      have hg7 : ∀ g, u7.ownBlock = some g → g < wr.heap.size := fun g hg => (HS.out.lt g hg).2
      have hgw : wr.heap.size < w3.heap.size := World.block_lt_of_cell? _ _ cX
      refine wp_region_tail (fun w' => w'.cell? ⟨wr.heap.size, 0, none⟩ = some (.int .i64 (X k))) (fun _ => True) 10 10 (by kernel_rfl) ⟨cX, trivial⟩ (fun hHeld => ?_)
      refine wpAnyT_takeA (i := 0) (v := u7) rfl (by kernel_rfl) (by kernel_rfl) (by kernel_rfl) (by kernel_rfl) (by kernel_rfl) (by decide) (by decide) (fun _ _ _ h => h) (Or.inl ⟨by rfl, ?_⟩) (by assumption) ?_
      · intro w' hSw
        go_simp
      refine wpAnyT_takeA (i := 1) (v := .pointer (some ⟨wr.heap.size, 0, none⟩)) rfl (by kernel_rfl) (by kernel_rfl) (by kernel_rfl) (by kernel_rfl) (by kernel_rfl) (by decide) (by decide) (fun _ _ _ h => h) (Or.inl ⟨by rfl, ?_⟩) (by assumption) ?_
      · intro w' hSw
        go_simp
      refine wpAnyT_takeA (i := 2) (v := .int .i64 (X k)) rfl (by kernel_rfl) (by kernel_rfl) (by kernel_rfl) (by kernel_rfl) (by kernel_rfl) (by decide) (by decide) (fun _ _ _ h => h) (Or.inl ⟨by rfl, ?_⟩) (by assumption) ?_
      · intro w' hSw
        go_simp
      refine wpAnyT_takeA (i := 3) (v := .slice A' n' c') rfl (by kernel_rfl) (by kernel_rfl) (by kernel_rfl) (by kernel_rfl) (by kernel_rfl) (by decide) (by decide) (fun _ _ _ h => h) (Or.inl ⟨by rfl, ?_⟩) (by assumption) ?_
      · intro w' hSw
        go_simp
      refine wpAnyT_takeA (i := 4) (v := .pointer (some ⟨wr.heap.size, 0, none⟩)) rfl (by kernel_rfl) (by kernel_rfl) (by kernel_rfl) (by kernel_rfl) (by kernel_rfl) (by decide) (by decide) (fun _ _ _ h => h) (Or.inl ⟨by rfl, ?_⟩) (by assumption) ?_
      · intro w' hSw
        go_simp
      refine wpAnyT_takeA (i := 5) (v := .int .i64 (X k)) rfl (by kernel_rfl) (by kernel_rfl) (by kernel_rfl) (by kernel_rfl) (by kernel_rfl) (by decide) (by decide) (fun _ _ _ h => h) (Or.inl ⟨by rfl, ?_⟩) (by assumption) ?_
      · intro w' hSw
        go_simp
      simp only [Act.put, List.setIfInBounds_toArray]
      refine wpAnyT_one (i := 6) (by kernel_rfl) rfl (Ob.head) (fun K hK => ?_)
      go_simp
      refine (value_21 _ _ _ _ f _ w3.drew (by omega) (Nat.le_trans hBw hsz3) (Rd.drew (Rd.below HR2'.out (HB3.out.mono hBw))) (fun j _ => HF.out j) HXK.out).mono ?_
      rintro e w4 ⟨rfl, hb4⟩
      have cX4 : w4.cell? ⟨wr.heap.size, 0, none⟩ = some (.int .i64 (X k)) := (hb4.cell (by simpa using hgw)).trans cX
      have HB4 := Lib.hid (below_then HB3.out.drew hb4 (Nat.le_refl _))
      have HS4 := Lib.hid (own_below (w := w3.drew) HS3.out hb4)
      have hsz4 := HB4.out.size
      clear hb4
      go_wp2_with fail
      refine hK.out _ _ ⟨cX4, trivial⟩ (fun hHeld => ?_)
      clear hK K
      refine wpAnyT_one (i := 7) (by kernel_rfl) rfl (Ob.head) (fun K hK => ?_)
      go_simp
      refine hK.out _ _ ⟨cX4, trivial⟩ (fun hHeld => ?_)
      clear hK K
      refine wpAnyT_one (i := 8) (by kernel_rfl) rfl (Ob.head) (fun K hK => ?_)
      go_simp
      have cX5 : (w4.alloc (.cells #[.int .i64 (X k), .int .i64 (vN f (X k) n' % 1073741789)] 38)).cell? ⟨wr.heap.size, 0, none⟩ = some (.int .i64 (X k)) := by rw [(below_alloc _ _).cell (World.block_lt_of_cell? _ _ cX4)]; exact cX4
      refine hK.out _ _ ⟨cX5, trivial⟩ (fun hHeld => ?_)
      clear hK K
      refine wpAnyT_one (i := 9) (by kernel_rfl) rfl (Ob.head) (fun K hK => ?_)
      rw [if_pos (by kernel_rfl)]
      refine wp_append_own _ _ 30 rfl w2.heap.size 38 i0 _ 2 16 Try.underlying30 hi hz0 hz1 hz2 rfl (by decide) u7 k (rowP X (fun j => vN f (X j) n' % 1073741789) k) rfl (HS4.out.alloc _) ⟨_, 0, none⟩ 1 1 [.int .i64 (X k), .int .i64 (vN f (X k) n' % 1073741789)] rfl rfl (cell_two_new _ _ _ _) (by simp [Value.oneCell']) (by unfold maxLen; omega) (by omega) (by simp; omega) ?_
      intro v6 w6 hown6 hgrow6 hat6
      have cX6 : w6.cell? ⟨wr.heap.size, 0, none⟩ = some (.int .i64 (X k)) := by
        refine (cell_heap (hgrow6.block _ (by have := World.block_lt_of_cell? _ _ cX4; simp at this ⊢; omega) (fun e => ?_)) 0).trans cX5
        have := hg7 _ e.symm
        omega
      have HB6 : Hid (Below w2.heap.size w2 w6) := Lib.hid ((HB4.out.trans (Below.mono (below_alloc _ _) hsz4)).grown hgrow6 (by simp; omega) (fun j hj => (HS.out.lt j hj).1))
      refine hK.out _ _ ⟨cX6, trivial⟩ (fun hHeld => ?_)
      clear hK K
      refine wpAnyT_one (i := 10) (by kernel_rfl) rfl (Ob.last (by kernel_rfl) (by kernel_rfl)) (fun K hK => ?_)
      go_simp
      refine hK.out _ _ trivial (fun _ => ?_)
      clear hK K
      refine wpAnyT_done (by kernel_rfl) ?_
      refine hNext _ _ ?_
      go_wp2_with fail
      go_roundw
      case rel => exact ⟨k + 1, by omega, by go_num, rowP_succ _ _ k ▸ hown6, HB6.out⟩
      case measure => simp [intOf]; omega
    · obtain rfl : k = n := by omega
      have hBr : B ≤ wr.heap.size := Nat.le_trans hBw hsz
      obtain ⟨A7, c7, rfl⟩ := own_form HS.out
      have HRS : Hid (RdP wr wr.heap.size A7 k X (fun j => vN f (X j) n' % 1073741789)) := Lib.hid (Rd.of_own HS.out (fun j hj => rowP_at _ _ _ _ hj))
      have HV := Lib.hid (vAt_poly (n := k) (X := X) (Y := fun j => vN f (X j) n' % 1073741789) (f := f) (by omega) HD.out (by omega : n' ≤ k) (fun j _ => Pl.Cg.mod _) t)
      have HRB : Hid (Rd wr B A' n' (fun j => .int .i64 (f j))) := Lib.hid (Rd.below HR2'.out (HBL.out.mono hBw))
      clear HS
      go_wp2_with fail
      refine (at_19 _ k _ wr.heap.size X (fun j => vN f (X j) n' % 1073741789) _ _ hm (Nat.le_refl _) (fun _ => HRS.out) HX.out (fun j => i64_mod _) HT.out).mono ?_
      rintro e w3 ⟨rfl, hb3⟩
      rw [HV.out, HE.out]
      have B3 := Lib.hid hb3
      have hs3 := hb3.size
      have HMD := Lib.hid (emodQ (vN f t n'))
      clear hb3
      go_wp2_with fail
      refine (in_23 _ _ HMD.out).mono ?_
      rintro e w' ⟨rfl, rfl⟩
      go_wp2_with fail
      refine (value_21 _ _ _ _ f _ _ (by omega) (Nat.le_trans hBr hs3) (Rd.below HRB.out (B3.out.mono hBr)) (fun j _ => HF.out j) HT.out).mono ?_
      rintro e w4 ⟨rfl, hb4⟩
      have B4 := Lib.hid (below_then B3.out hb4 (Nat.le_refl _))
      clear hb4
      go_wp2_with fail
      go_ret
      exact ⟨rfl, B2.out.trans ((HBL.out.mono B2.out.size).trans (B4.out.mono (Nat.le_trans B2.out.size hsz)))⟩
end Go.Proofs.Ytklngacahhlhmaa
