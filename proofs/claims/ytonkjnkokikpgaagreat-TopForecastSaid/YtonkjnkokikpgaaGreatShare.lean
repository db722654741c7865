/- Contract of stakes.Share. -/
import Derived.Test.YtonkjnkokikpgaaGreatShp
import Derived.Test.YtonkjnkokikpgaaGreatApart
import Derived.Test.YtonkjnkokikpgaaGreatShelf
import Derived.Test.YtonkjnkokikpgaaGreatStable
namespace Go.Proofs.YtonkjnkokikpgaaGreat
open Go.RowKit

theorem make_ints (n : Nat) (hn : n ≤ 1000) (w : World) : (Instr.makeSlice 36 (.int .i64 (n : Int)) (.int .i64 (n : Int))).run Tryz.prog w = .ok (.slice (some ⟨w.heap.size, 0, none⟩) n n) (w.alloc (.cells (madeCells #[.int .i64 0] n) 3)) := by
  obtain ⟨i, hi, hzz⟩ := Option.map_eq_some_iff.1 info3
  simp only [Prod.mk.injEq] at hzz
  obtain ⟨hz, hs, hb⟩ := hzz
  have hr := run_make (P := Tryz.prog) w 36 3 i _ Tryz.underlying36 hi hz .i64 .i64 n n (by omega) (Int.le_refl _) (by rw [hb]; omega) (by omega)
  simp only [Int.toNat_natCast, hs, Nat.mul_one] at hr
  exact hr
theorem made_row (w : World) (n : Nat) : RowN (w.alloc (.cells (madeCells #[.int .i64 0] n) 3)) w.heap.size n (fun _ => 0) :=
  ⟨_, Blk.new _ _ _, by rw [size_madeCells]; exact Nat.le_refl _, fun j hj => by simp [madeCells, hj, Nat.mod_one]⟩
/-- what Share hands back -/
def ShR (n t : Nat) (e : Ending) (w' : World) : Prop := ∃ (D : Option Addr) (dc rest : Nat) (sv : Nat → Nat), e = .returned (.tuple #[.slice D n dc, .int .i64 rest, .int .i64 0]) ∧ Rd w' w'.heap.size D n (fun j => .int .i64 (sv j)) ∧ sumM sv n + rest = t
theorem results_tmp3s {fn : Func} {p q r : Tmp} (h : fn.results = #[.tmp p, .tmp q, .tmp r]) (tmps : Array Value) (w : World) : (results fn tmps).run Tryz.prog w = .ok (.tuple #[tmps.getD p undef, tmps.getD q undef, tmps.getD r undef]) w := by
  simp [results, h, go_sem]
theorem sumM_zero : ∀ n, sumM (fun _ => 0) n = 0
  | 0 => rfl
  | n + 1 => by rw [sumM, sumM_zero n]

theorem info146 : (Tryz.prog.info? 146).map (fun i => (i.zero, i.size, i.bytes)) = some (some (.agg #[.int .i64 0, .int .u64 0]), 2, 16) := by kernel_rfl
/-- the cells of the first k quotas -/
def rowZ (r : Nat → Nat) : Nat → List Value
  | 0 => []
  | k + 1 => rowZ r k ++ [.int .i64 k, .int .u64 (r k)]
/-- the whole parts of the first k -/
def svK (q : Nat → Nat) (k j : Nat) : Nat := if j < k then q j else 0
theorem svK_upd (q : Nat → Nat) (k : Nat) : updI (svK q k) k (q k) = svK q (k + 1) := by
  funext j
  unfold updI svK
  by_cases e : j = k
  · subst e; rw [if_pos rfl, if_pos (by omega)]
  · rw [if_neg e]
    by_cases h : j < k
    · rw [if_pos h, if_pos (by omega)]
    · rw [if_neg h, if_neg (by omega)]
theorem cell_two_q (w : World) (x : Nat) (r : Nat) : ∀ j u, [Value.int .i64 x, .int .u64 r][j]? = some u → (w.alloc (.cells #[.int .i64 x, .int .u64 r] 146)).cell? ((⟨w.heap.size, 0, none⟩ : Addr).add j) = some u := fun j u hu => by
  match j with
  | 0 => simp at hu; subst hu; simp [Addr.add]
  | 1 => simp at hu; subst hu; simp [Addr.add]
  | j + 2 => simp at hu
theorem rowZ_len (r : Nat → Nat) : ∀ n, (rowZ r n).length = n * 2
  | 0 => rfl
  | n + 1 => by rw [rowZ, List.length_append, rowZ_len r n]; simp; omega
theorem rowZ_at (r : Nat → Nat) : ∀ n j, j < n → (rowZ r n)[j * 2]? = some (.int .i64 j) ∧ (rowZ r n)[j * 2 + 1]? = some (.int .u64 (r j))
  | 0, j, h => by omega
  | n + 1, j, h => by
    have hl := rowZ_len r n
    rw [rowZ]
    by_cases e : j = n
    · subst e
      rw [List.getElem?_append_right (by omega), List.getElem?_append_right (by omega), hl, show j * 2 - j * 2 = 0 by omega, show j * 2 + 1 - j * 2 = 1 by omega]
      exact ⟨rfl, rfl⟩
    · rw [List.getElem?_append_left (by omega), List.getElem?_append_left (by omega)]
      exact rowZ_at r n j (by omega)
theorem QB.of_own {W : World} {base n : Nat} {v : Value} {r : Nat → Nat} (hn : 0 < n) (hr : ∀ j, j < n → r j ≤ 18446744073709551615) (h : W.ownsRow base 146 2 v n (rowZ r n)) : ∃ g cap, v = .slice (some ⟨g, 0, none⟩) n cap ∧ base ≤ g ∧ n ≤ cap ∧ QB W g n := by
  rcases h.2 with ⟨_, h0⟩ | ⟨g, cap, cur, hv, hbg, hg, hle, _, hcs, htake⟩
  · omega
  · have hat : ∀ j, j < n * 2 → cur[j]? = (rowZ r n)[j]? := fun j hj => by
      rw [← htake, List.getElem?_take, if_pos hj]
      simp
    refine ⟨g, cap, hv, hbg, hle, cur, hg, by rw [hcs]; exact Nat.mul_le_mul_right 2 hle, fun j hj => ?_⟩
    obtain ⟨a, b⟩ := rowZ_at r n j hj
    exact ⟨j, r j, hj, ⟨Int.natCast_nonneg _, by have := hr j hj; omega⟩, by rw [hat _ (by omega)]; exact a, by rw [hat _ (by omega)]; exact b⟩
theorem RowN.grown {W W' : World} {g n : Nat} {f : Nat → Nat} {row : Option Nat} (h : RowN W g n f) (hg : W.grownBy W' row) (hne : some g ≠ row) : RowN W' g n f := by
  obtain ⟨cur, hb, h2, hc⟩ := h
  exact ⟨cur, (hg.block g hb.lt hne).trans hb, h2, hc⟩
theorem mul64 (t x : Nat) (ht : t ≤ 1099511627776) (hx : x ≤ 65535) (w : World) : Calls Tryz.prog 73 #[.int .u64 t, .int .u64 x] w fun e w' => e = .returned (.tuple #[.int .u64 0, .int .u64 ((t * x : Nat) : Int)]) ∧ w' = w := by
  have h := Tryz.bits_Mul64 t x (by omega) (by omega) w
  have h1 : t * x ≤ 1099511627776 * 65535 := Nat.mul_le_mul ht hx
  rw [Nat.div_eq_of_lt (by omega), Nat.mod_eq_of_lt (by omega)] at h
  exact h

set_option maxRecDepth 100000 in
set_option maxHeartbeats 4000000 in
theorem Share_55 (t n c B : Nat) (A : Option Addr) (f : Nat → Nat) (w : World) (hn : n ≤ 600) (ht : t ≤ 1099511627776) (hB : B ≤ w.heap.size) (hr : Rd w B A n (fun j => .int .i64 (f j))) (hf : ∀ j, j < n → f j ≤ 65535) :
    Calls Tryz.prog 55 #[.int .i64 t, .slice A n c] w fun e w' => ShR n t e w' ∧ Below w.heap.size w w' := by
  have HR := Lib.hid hr
  have HF := Lib.hid hf
  have HRT := Lib.hid (right_54 t A n c B (fun j => f j) w hn (by omega) hB hr (fun j hj => by have := hf j hj; omega))
  have hmk : ∀ w, (Instr.makeSlice 36 (.int .i64 (n : Int)) (.int .i64 (n : Int))).run Tryz.prog w = .ok (.slice (some ⟨w.heap.size, 0, none⟩) n n) (w.alloc (.cells (madeCells #[.int .i64 0] n) 3)) := fun w => make_ints n (by omega) w
  clear hr hf
  go_enter Tryz.func55, Tryz.ntmps55
  go_wp2_with fail
  refine HRT.out.mono ?_
  rintro e w1 ⟨rfl, hb⟩
  have HB1 := Lib.hid hb
  have hz1 := hb.size
  clear hb HRT
  go_upto_region 5 with fail
  obtain ⟨w2, hw2⟩ : ∃ zz, zz = w1.alloc (.cells (madeCells #[.int .i64 0] n) 3) := ⟨_, rfl⟩
  have HS2 : Hid (RowN w2 w1.heap.size n (fun _ => 0)) := Lib.hid (hw2 ▸ made_row w1 n)
  have HB2 : Hid (Below w.heap.size w w2) := Lib.hid (hw2 ▸ HB1.out.alloc hz1 _)
  rw [← hw2]
  clear hw2 hmk HB1
  generalize w1.heap.size = g at *
  clear w1
  go_wp2_with fail
  go_loopw [7, 31] (fun s i wr => ∃ k : Nat, k ≤ n ∧ i = .int .i64 k ∧ s = .int .i64 (sumM f k) ∧ wr = w2) (fun _ i _ => n - (intOf i).toNat)
  case atStart => exact ⟨0, Nat.zero_le _, rfl, rfl, rfl⟩
  case round =>
    obtain ⟨k, hk, rfl, rfl, rfl⟩ := hrel
    by_cases hlt : k < n
    · have hlt' : (k : Int) < (n : Int) := by omega
      obtain ⟨b, o, rfl, _, hc⟩ := (HR.out.below (HB2.out.mono hB)) (by omega)
      have q0 : wr.cell? ⟨b, o + k, none⟩ = some (.int .i64 (f k)) := hc k hlt
      clear hc
      have hsl := sumM_le f 65535 k (fun j hj => HF.out j (by omega))
      have hfk := HF.out k hlt
      have hsl2 : sumM f k ≤ 39321000 := by
        have : k * 65535 ≤ 600 * 65535 := Nat.mul_le_mul_right _ (by omega)
        omega
      have hss : (sumM f k : Int) + (f k : Int) = (sumM f (k + 1) : Int) := by rw [sumM]; omega
      have HSS := Lib.hid hss
      clear hsl hss
      generalize sumM f k = sk at *
      go_wp2_with fail
      go_roundw
      case rel => exact ⟨k + 1, by omega, by go_num, by rw [HSS.out], by trivial⟩
      case measure => simp [intOf]; omega
    have hlt' : ¬ (k : Int) < (n : Int) := by omega
    obtain rfl : k = n := by omega
    by_cases hS : sumM f k = 0
    · have hSd : ((sumM f k : Int) == 0) = true := by simp; omega
      rw [hS]
      go_wp2_with fail
      refine bodyPost_ret (results_tmp3s rfl _ _) rfl ?_
      exact ⟨⟨_, _, t, fun _ => 0, rfl, HS2.out.rd, by rw [sumM_zero]; omega⟩, HB2.out⟩
    have hSd : ((sumM f k : Int) == 0) = false := by simpa using hS
    have HSL : Hid (sumM f k = sumM f k) := Lib.hid rfl
    obtain ⟨S, hSS⟩ : ∃ S, S = sumM f k := ⟨_, rfl⟩
    rw [← hSS] at hS hSd ⊢
    have HSS := Lib.hid hSS
    have hS0 : 0 < S := by omega
    have hSm : S ≤ 39321000 := by
      have h1 := sumM_le f 65535 k (fun j hj => HF.out j hj)
      have h2 : k * 65535 ≤ 600 * 65535 := Nat.mul_le_mul_right _ hn
      omega
    clear hSS HSL
    have HLF := Lib.hid (sh_left t S k f hS0 HSS.out.symm)
    obtain ⟨i0, hif, hz0, hz1, hz2⟩ := info_parts info146
    have hS' : (S : Int) ≠ 0 := by omega
    clear hS
    obtain ⟨U, hU⟩ : ∃ U, U = wr := ⟨_, rfl⟩
    subst hU
    have hgU := HS2.out.lt
    go_wp2_with fail
    go_loopw [10, 11, 46] (fun s v i wq => ∃ j : Nat, j ≤ k ∧ i = .int .i64 j ∧ s = .int .i64 ((t : Int) - (sumM (shQ t S f) j : Int)) ∧ Hid (RowN wq g k (svK (shQ t S f) j)) ∧ Hid (wq.ownsRow U.heap.size 146 2 v j (rowZ (fun i => t * f i % S) j)) ∧ Hid (Below w.heap.size w wq) ∧ U.heap.size ≤ wq.heap.size) (fun _ _ i _ => k - (intOf i).toNat)
    case atStart => exact ⟨0, Nat.zero_le _, rfl, by simp [sumM], by rw [show svK (shQ t S f) 0 = fun _ => 0 by funext j; simp [svK]]; exact HS2, Lib.hid (World.ownsRow_nil _ _ _ _), HB2, Nat.le_refl _⟩
    case round =>
      obtain ⟨j, hj, rfl, rfl, HRN, HOW, HBQ, hzU⟩ := hrel
      by_cases hjl : j < k
      · have hjl' : (j : Int) < (k : Int) := by omega
        obtain ⟨b, o, rfl, _, hc⟩ := (HR.out.below (HBQ.out.mono hB)) (by omega)
        have q0 : wr.cell? ⟨b, o + j, none⟩ = some (.int .i64 (f j)) := hc j hjl
        have hfj := HF.out j hjl
        obtain ⟨q, hq⟩ : ∃ q, q = shQ t S f j := ⟨_, rfl⟩
        obtain ⟨r, hr⟩ : ∃ r, r = t * f j % S := ⟨_, rfl⟩
        obtain ⟨x, hx⟩ : ∃ x, x = t * f j := ⟨_, rfl⟩
        have hxb : x ≤ 72056494526300160 := by rw [hx]; exact Nat.mul_le_mul ht hfj
        have HMU : Hid (∀ W, Calls Tryz.prog 73 #[.int .u64 t, .int .u64 (f j)] W fun e w' => e = .returned (.tuple #[.int .u64 0, .int .u64 x]) ∧ w' = W) := Lib.hid fun W => by rw [hx]; exact mul64 t (f j) ht hfj W
        have hqx : q = x / S := by rw [hq, hx]; rfl
        have hrx : r = x % S := by rw [hr, hx]
        have HDV : Hid (∀ W, Calls Tryz.prog 74 #[.int .u64 0, .int .u64 x, .int .u64 S] W fun e w' => e = .returned (.tuple #[.int .u64 q, .int .u64 r]) ∧ Below W.heap.size W w') := Lib.hid fun W => by rw [hqx, hrx]; exact div_74 x S hS0 (by omega) W
        have hqb : q ≤ 72056494526300160 := by rw [hqx]; exact Nat.le_trans (Nat.div_le_self _ _) hxb
        have hrb : r < S := by rw [hrx]; exact Nat.mod_lt _ hS0
        have HSV : Hid (updI (svK (shQ t S f) j) j q = svK (shQ t S f) (j + 1)) := Lib.hid (by rw [hq]; exact svK_upd _ _)
        have HRZ : Hid (rowZ (fun i => t * f i % S) j ++ [.int .i64 j, .int .u64 r] = rowZ (fun i => t * f i % S) (j + 1)) := Lib.hid (by rw [hr]; rfl)
        have hsm : sumM (shQ t S f) (j + 1) ≤ t := Nat.le_trans (sumM_mono _ _ hjl) HLF.out.1
        have HSM : Hid ((t : Int) - (sumM (shQ t S f) j : Int) - (q : Int) = (t : Int) - (sumM (shQ t S f) (j + 1) : Int)) := Lib.hid (by rw [sumM, hq]; omega)
        have hsj : sumM (shQ t S f) j ≤ t := Nat.le_trans (sumM_mono _ _ hj) HLF.out.1
        have HQQ := Lib.hid hq
        clear hc hq hr hx hqx hrx hsm
        generalize f j = fj at *
        go_wp2_with fail
        refine (HMU.out _).mono ?_
        rintro e u ⟨rfl, rfl⟩
        go_wp2_with fail
        refine (HDV.out _).mono ?_
        rintro e w5 ⟨rfl, hb⟩
        have HRN5 := Lib.hid (HRN.out.below hb HRN.out.lt)
        have HOW5 := Lib.hid (own_below HOW.out hb)
        have HB5 := Lib.hid (HBQ.out.trans (hb.mono HBQ.out.size))
        have hzU5 : U.heap.size ≤ w5.heap.size := Nat.le_trans hzU hb.size
        clear hb q0 HMU HDV HRN HOW HBQ
        obtain ⟨c0, f0⟩ := HRN5.out.cell hjl
        go_upto_region 21 with fail
        obtain ⟨e6, he6⟩ : ∃ zz, zz = w5.setCell ⟨g, j, none⟩ (.int .i64 q) := ⟨_, rfl⟩
        have HRN6 : Hid (RowN e6 g k (svK (shQ t S f) (j + 1))) := Lib.hid (by rw [he6, ← HSV.out]; exact HRN5.out.set_ hjl q)
        have HOW6 : Hid (e6.ownsRow U.heap.size 146 2 u11 j (rowZ (fun i => t * f i % S) j)) := Lib.hid (by rw [he6]; exact ownsRow_setCell_below HOW5.out (a := ⟨g, j, none⟩) hgU _)
        have HB6 : Hid (Below w.heap.size w e6) := Lib.hid (by rw [he6]; exact HB5.out.setCell (p := ⟨g, j, none⟩) (by assumption) _)
        have hzU6 : U.heap.size ≤ e6.heap.size := by rw [he6]; simpa using hzU5
        have c1 : e6.cell? ⟨g, j, none⟩ = some (.int .i64 q) := by
          rw [(HRN6.out.cell hjl).1]
          unfold svK
          rw [if_pos (by omega), HQQ.out]
        rw [← he6]
        clear he6 HRN5 HOW5 HB5 hzU5 c0 f0
        have hwU : w.heap.size ≤ U.heap.size := HB2.out.size
        have hw1 : IntKind.i64.wrap ((t : Int) - (sumM (shQ t S f) j : Int) - (q : Int)) = (t : Int) - (sumM (shQ t S f) j : Int) - (q : Int) := IntWalk.i64_in _ ⟨by omega, by omega⟩
        go_wp2_with (at_builtin; refine wpList_append_own_at _ rfl _ _ 140 rfl U.heap.size 146 i0 (.agg #[.int .i64 0, .int .u64 0]) 2 16 Tryz.underlying140 hif hz0 hz1 hz2 rfl (by decide) u11 j (rowZ (fun i => t * f i % S) j) rfl (HOW6.out.alloc _) ⟨_, 0, none⟩ 1 1 [.int .i64 j, .int .u64 r] rfl rfl (cell_two_q _ _ _) (by simp [Value.oneCell']) (by unfold maxLen; omega) (by omega) (by simp; omega) ?_; intro v6 wb hown2 hgrow2 _ hat2)
        have HOW7 : Hid (wb.ownsRow U.heap.size 146 2 v6 (j + 1) (rowZ (fun i => t * f i % S) (j + 1))) := Lib.hid (by rw [← HRZ.out]; exact hown2)
        have hbU : Below U.heap.size e6 wb := (Below.mono (below_alloc _ _) hzU6).grown hgrow2 (by simp; omega) (fun q hq => (HOW6.out.lt q hq).1)
        have HRN7 := Lib.hid (HRN6.out.below hbU hgU)
        have HB7 := Lib.hid (HB6.out.trans (hbU.mono hwU))
        have hzU7 : U.heap.size ≤ wb.heap.size := Nat.le_trans hzU6 hbU.size
        clear hown2 hgrow2 hat2 hbU HRN6 HOW6 HB6 hzU6 c1
        go_wp2_with fail
        go_roundw
        case rel => exact ⟨j + 1, by omega, by go_num, by rw [← HSM.out], HRN7, HOW7, HB7, hzU7⟩
        case measure => simp [intOf]; omega
      have hjk : k = j := by omega
      subst hjk
      have hjl' : ¬ (k : Int) < (k : Int) := by omega
      have hk0 : 0 < k := by
        rcases Nat.eq_zero_or_pos k with h | h
        · subst h; have := HSS.out; simp [sumM] at this; omega
        · exact h
      obtain ⟨g2, cap, rfl, hg2, hcap, hqb⟩ := QB.of_own hk0 (fun j _ => by have := Nat.mod_lt (t * f j) hS0; omega) HOW.out
      have HQB := Lib.hid hqb
      obtain ⟨Q, hQ⟩ : ∃ Q, Q = sumM (shQ t S f) k := ⟨_, rfl⟩
      have hQ1 := HLF.out
      rw [← hQ] at hQ1 ⊢
      obtain ⟨L, hL⟩ : ∃ L : Nat, L = t - Q := ⟨_, rfl⟩
      have hLv : (t : Int) - (Q : Int) = (L : Int) := by omega
      have HSUM : Hid (sumM (svK (shQ t S f) k) k = Q) := Lib.hid (by
        rw [hQ]
        have : ∀ m, m ≤ k → sumM (svK (shQ t S f) k) m = sumM (shQ t S f) m := fun m => by
          induction m with
          | zero => intro _; rfl
          | succ m ih => intro hm; rw [sumM, sumM, ih (by omega)]; unfold svK; rw [if_pos (by omega)]
        exact this k (Nat.le_refl _))
      have hLk : L ≤ k ∧ Q + L ≤ t ∧ t ≤ Q + L := by omega
      clear hQ hL hqb HOW HLF
      generalize svK (shQ t S f) k = sv0 at *
      have hwU : w.heap.size ≤ U.heap.size := HB2.out.size
      go_wp2_with fail
      refine (sort_75 g2 k cap hn wr HQB.out).mono ?_
      rintro e w5 ⟨rfl, hq5, hg5⟩
      have HQ5 := Lib.hid hq5
      have HR5 := Lib.hid (HRN.out.grown hg5 (fun e => by cases e; omega))
      have HB5 := Lib.hid (HBQ.out.grown hg5 (Nat.le_trans hwU hzU) (fun j e => by cases e; omega))
      have hzU5 : U.heap.size ≤ w5.heap.size := Nat.le_trans hzU hg5.size
      clear hq5 hg5 HQB HRN HBQ
      have hL1 : (L : Int) ≤ (cap : Int) := by omega
      have hL0 : (0 : Int) ≤ (L : Int) := by omega
      have hgl5 := HR5.out.lt
      clear hLv
      go_wp2_with fail
      go_loopw [91] (fun i wr => ∃ (a : Nat) (sv : Nat → Nat), a ≤ L ∧ i = .int .i64 a ∧ Hid (RowN wr g k sv) ∧ Hid (QB wr g2 k) ∧ Hid (sumM sv k = Q + a) ∧ Hid (Below w.heap.size w wr) ∧ U.heap.size ≤ wr.heap.size) (fun i _ => L - (intOf i).toNat)
      case atStart => exact ⟨0, sv0, Nat.zero_le _, rfl, HR5, HQ5, HSUM, HB5, hzU5⟩
      case round =>
        clear HR5 HQ5 HSUM HB5 hzU5
        obtain ⟨a, sv, ha, rfl, HR6, HQ6, HS6, HB6, hzU6⟩ := hrel
        by_cases hal : ¬ a < L
        · have hal' : ¬ (a : Int) < (L : Int) := by omega
          have haL : a = L := by omega
          have HS7 : Hid (sumM sv k + 0 = t) := Lib.hid (by have := HS6.out; omega)
          clear haL
          go_wp2_with fail
          refine bodyPost_ret (results_tmp3s rfl _ _) rfl ?_
          exact ⟨⟨_, _, 0, sv, rfl, HR6.out.rd, HS7.out⟩, HB6.out⟩
        have hal : a < L := by omega
        have hal' : (a : Int) < (L : Int) := by omega
        obtain ⟨x, r, hx, hr, p0, p1, p2, p3⟩ := HQ6.out.at_ (k := a) (by omega)
        have hsx : sv x ≤ 1099511627776 := by
          have h1 := sumM_one sv hx
          have h2 := HS6.out
          omega
        have HS7 : Hid (sumM (updI sv x (sv x + 1)) k = Q + (a + 1)) := Lib.hid (by rw [sumM_add sv hx, HS6.out]; omega)
        have hx' : (x : Int) < (k : Int) := by omega
        clear hr
        go_upto_region 28 with fail
        obtain ⟨e1, he1⟩ : ∃ zz, zz = wr.alloc (.cells #[.int .i64 x, .int .u64 r] 146) := ⟨_, rfl⟩
        have HX1 : Hid (Blk e1 wr.heap.size 146 #[.int .i64 x, .int .u64 r]) := Lib.hid (he1 ▸ Blk.new _ _ _)
        have HE1 : Below wr.heap.size wr e1 := he1 ▸ below_alloc _ _
        have HR7 := Lib.hid (HR6.out.below HE1 HR6.out.lt)
        have HQ7 := Lib.hid (HQ6.out.below HE1 HQ6.out.lt)
        have HB7 := Lib.hid (HB6.out.trans (HE1.mono HB6.out.size))
        have hzU7 : U.heap.size ≤ e1.heap.size := Nat.le_trans hzU6 HE1.size
        rw [← he1]
        clear he1 HE1 HR6 HQ6 HB6 HS6 hzU6 p0 p1 p2 p3
        have x0 : e1.cell? ⟨wr.heap.size, 0, none⟩ = some (.int .i64 x) := HX1.out.cell 0
        obtain ⟨c0, f0⟩ := HR7.out.cell hx
        have hcs : (sv x : Int) + 1 = ((sv x + 1 : Nat) : Int) := by omega
        have HCS := Lib.hid hcs
        clear hcs
        go_upto_region 29 with fail
        rw [HCS.out]
        obtain ⟨e2, he2⟩ : ∃ zz, zz = e1.setCell ⟨g, x, none⟩ (.int .i64 ((sv x + 1 : Nat) : Int)) := ⟨_, rfl⟩
        have HR8 : Hid (RowN e2 g k (updI sv x (sv x + 1))) := Lib.hid (by rw [he2]; exact HR7.out.set_ hx _)
        have HQ8 : Hid (QB e2 g2 k) := Lib.hid (by
          obtain ⟨cur, hb, h2, h3⟩ := HQ7.out
          rw [he2]
          exact ⟨cur, hb.far (show g2 ≠ g by omega) _, h2, h3⟩)
        have HB8 : Hid (Below w.heap.size w e2) := Lib.hid (by rw [he2]; exact HB7.out.setCell (p := ⟨g, x, none⟩) (by assumption) _)
        have hzU8 : U.heap.size ≤ e2.heap.size := by rw [he2]; simpa using hzU7
        rw [← he2]
        clear he2 HR7 HQ7 HB7 hzU7 HX1 x0 c0 f0
        go_wp2_with fail
        go_roundw
        case rel => exact ⟨a + 1, _, by omega, by go_num, HR8, HQ8, HS7, HB8, hzU8⟩
        case measure => simp [intOf]; omega
end Go.Proofs.YtonkjnkokikpgaaGreat
