/- The top: words for TopForecast. The top: more words for TopForecast. -/
import Derived.Test.YtonkjnkokikpgaaGreatTopC
import Derived.Test.YtonkjnkokikpgaaGreatTopE
import Derived.Test.YtonkjnkokikpgaaGreatTopF
import Derived.Test.YtonkjnkokikpgaaGreatMeet
import Derived.Test.YtonkjnkokikpgaaGreatProgB
namespace Go.Proofs.YtonkjnkokikpgaaGreat
open Go.RowKit

/-- the first k numbers -/
def svP (sv : Nat → Nat) (k j : Nat) : Nat := if j < k then sv j else 0
theorem svP_zero (sv : Nat → Nat) : svP sv 0 = fun _ => 0 := by funext j; simp [svP]
theorem svP_upd (sv : Nat → Nat) (k : Nat) : updI (svP sv k) k (sv k) = svP sv (k + 1) := by
  funext j
  unfold updI svP
  by_cases e : j = k
  · subst e; rw [if_pos rfl, if_pos (by omega)]
  · rw [if_neg e]
    by_cases h : j < k
    · rw [if_pos h, if_pos (by omega)]
    · rw [if_neg h, if_neg (by omega)]
theorem svP_skip {sv : Nat → Nat} {k : Nat} (h : sv k = 0) : svP sv (k + 1) = svP sv k := by
  funext j
  unfold svP
  by_cases e : j = k
  · subst e; rw [if_pos (by omega), if_neg (by omega), h]
  · by_cases h : j < k
    · rw [if_pos h, if_pos (by omega)]
    · rw [if_neg h, if_neg (by omega)]
theorem info41 : (Tryz.prog.info? 41).map (fun i => (i.zero, i.size, i.bytes)) = some (some (.slice none 0 0), 1, 24) := by kernel_rfl
/-- the cells of k lists of ranges -/
def rowA (P : Nat) (rA : Nat → Option Addr) (rc : Nat → Nat) (k : Nat) : List Value := (List.range k).map fun j => .slice (rA j) P (rc j)
theorem rowA_push (P : Nat) (rA : Nat → Option Addr) (rc : Nat → Nat) (k : Nat) (a : Option Addr) (c : Nat) : rowA P rA rc k ++ [.slice a P c] = rowA P (upd rA k a) (upd rc k c) (k + 1) := by
  unfold rowA
  rw [List.range_succ, List.map_append]
  congr 1
  · refine List.map_congr_left fun j hj => ?_
    rw [List.mem_range] at hj
    rw [upd_ne _ _ (by omega), upd_ne _ _ (by omega)]
  · simp [upd_at]
theorem rowA_rd {w : World} {base k c P : Nat} {A : Option Addr} {rA : Nat → Option Addr} {rc : Nat → Nat} (h : w.ownsRow base 41 1 (.slice A k c) k (rowA P rA rc k)) : Rd w w.heap.size A k (fun j => .slice (rA j) P (rc j)) := by
  have h1 := Rd.of_own (f := fun j => .slice (rA j) P (rc j)) h fun j hj => by
    have h2 : j < k := by omega
    simp [rowA, h2]
  rw [Nat.mul_one] at h1
  exact h1
/-- the forecasts of the season: what was seen is the same for all -/
def lastP (bd : Nat → Int) (rA : Nat → Option Addr) (rc : Nat → Nat) (rf : Nat → Nat → Int × Int) (sb P : Nat) (s : Nat → Nat) : PastF := ⟨bd, rA, fun _ => P, rc, fun _ => some ⟨sb, 0, none⟩, fun _ => P, fun _ => P, rf, fun _ i => ((s i : Nat) : Int)⟩
theorem lastP_push (bd : Nat → Int) (rA : Nat → Option Addr) (rc : Nat → Nat) (rf : Nat → Nat → Int × Int) (sb P : Nat) (s : Nat → Nat) (k : Nat) (a : Option Addr) (c : Nat) (f : Nat → Int × Int) :
    rowC (lastP bd rA rc rf sb P s) k ++ [.int .i64 (bd k), .slice a P c, .slice (some ⟨sb, 0, none⟩) P P] = rowC (lastP bd (upd rA k a) (upd rc k c) (upd rf k f) sb P s) (k + 1) := by
  have h1 := rowC_succ (lastP bd (upd rA k a) (upd rc k c) (upd rf k f) sb P s) k
  have h2 : rowC (lastP bd rA rc rf sb P s) k = rowC (lastP bd (upd rA k a) (upd rc k c) (upd rf k f) sb P s) k := rowC_congr fun j hj => by
    simp only [lastP]
    rw [upd_ne _ _ (by omega), upd_ne _ _ (by omega)]
    simp
  rw [h2, ← h1]
  simp only [lastP, upd_at]
/-- the ranges of the first k bodies, in rows of the call's own -/
def BkRows (w : World) (H P : Nat) (rA : Nat → Option Addr) (rc : Nat → Nat) (rf : Nat → Nat → Int × Int) (k : Nat) : Prop := ∀ j, j < k → w.ownsRow H 53 2 (.slice (rA j) P (rc j)) P (rowR (rf j) P)
theorem BkRows.below {w w' : World} {H P : Nat} {rA : Nat → Option Addr} {rc : Nat → Nat} {rf : Nat → Nat → Int × Int} {k : Nat} (h : BkRows w H P rA rc rf k) (hb : Below w.heap.size w w') : BkRows w' H P rA rc rf k := fun j hj => own_below (h j hj) hb
theorem BkRows.grown {w w' : World} {H P : Nat} {rA : Nat → Option Addr} {rc : Nat → Nat} {rf : Nat → Nat → Int × Int} {k base e size n : Nat} {v : Value} {xs : List Value} (h : BkRows w H P rA rc rf k) (ho : w.ownsRow base e size v n xs) (he : e ≠ 53) (hg : w.grownBy w' v.ownBlock) : BkRows w' H P rA rc rf k :=
  fun j hj => Apart.kept (h j hj) (own_other ho (h j hj) he) hg
theorem BkRows.push {w : World} {H P : Nat} {rA : Nat → Option Addr} {rc : Nat → Nat} {rf : Nat → Nat → Int × Int} {k : Nat} {a : Option Addr} {c : Nat} {f : Nat → Int × Int} (h : BkRows w H P rA rc rf k) (h1 : w.ownsRow H 53 2 (.slice a P c) P (rowR f P)) : BkRows w H P (upd rA k a) (upd rc k c) (upd rf k f) (k + 1) := fun j hj => by
  by_cases e : j = k
  · subst e
    rw [upd_at, upd_at, upd_at]
    exact h1
  · rw [upd_ne _ _ e, upd_ne _ _ e, upd_ne _ _ e]
    exact h j (by omega)
/-- the first k bodies: right ones that rise, right ranges -/
def LGood (bd : Nat → Int) (P : Nat) (rf : Nat → Nat → Int × Int) (k : Nat) : Prop := (∀ j, j < k → (0 ≤ bd j ∧ bd j ≤ 63) ∧ rgB P (rf j) = true) ∧ ∀ j, j + 1 < k → bd j < bd (j + 1)
theorem LGood.push {bd : Nat → Int} {P : Nat} {rf : Nat → Nat → Int × Int} {k : Nat} {f : Nat → Int × Int} (h : LGood bd P rf k) (h1 : 0 ≤ bd k ∧ bd k ≤ 63) (h2 : rgB P f = true) (h3 : 0 < k → bd (k - 1) < bd k) : LGood bd P (upd rf k f) (k + 1) := by
  refine ⟨fun j hj => ?_, fun j hj => ?_⟩
  · by_cases e : j = k
    · subst e
      rw [upd_at]
      exact ⟨h1, h2⟩
    · rw [upd_ne _ _ e]
      exact h.1 j (by omega)
  · by_cases e : j + 1 = k
    · have h4 := h3 (by omega)
      subst e
      simpa using h4
    · exact h.2 j (by omega)
theorem LGood.rises {bd : Nat → Int} {P : Nat} {rf : Nat → Nat → Int × Int} {k : Nat} (h : LGood bd P rf k) : Rises k bd := by
  intro a b hab hb
  induction b with
  | zero => omega
  | succ b ih =>
    have h1 := h.2 b hb
    by_cases e : a = b
    · subst e; exact h1
    · have := ih (by omega) (by omega)
      omega
theorem LGood.past {bd : Nat → Int} {P : Nat} {rA : Nat → Option Addr} {rc : Nat → Nat} {rf : Nat → Nat → Int × Int} {k sb : Nat} {s : Nat → Nat} (h : LGood bd P rf k) (hk : k ≤ 4) (hs : ∀ t, s t ≤ 4294967295) : PGood k (lastP bd rA rc rf sb P s) := by
  refine ⟨by omega, fun j hj => ?_⟩
  obtain ⟨h1, h2⟩ := h.1 j hj
  rw [rgB_iff] at h2
  refine ⟨h1, h2.1, rfl, h2.2, fun i _ => ?_⟩
  have := hs i
  show 0 ≤ ((s i : Nat) : Int) ∧ ((s i : Nat) : Int) ≤ 1099511627776
  omega
theorem lastP_rd {w : World} {H k c sb P : Nat} {D : Option Addr} {bd : Nat → Int} {rA : Nat → Option Addr} {rc : Nat → Nat} {rf : Nat → Nat → Int × Int} {s : Nat → Nat} (ho : w.ownsRow H 49 3 (.slice D k c) k (rowC (lastP bd rA rc rf sb P s) k)) (hr : BkRows w H P rA rc rf k) (hs : RowN w sb P s) (hP : P ≤ 8) : PastRd w w.heap.size D k (lastP bd rA rc rf sb P s) := by
  refine ⟨rowC_rd ho, fun j hj => ⟨⟨rowR_rd (hr j hj), show P ≤ 9223372036854775807 by omega⟩, hs.rd, show P ≤ 9223372036854775807 by omega⟩⟩
theorem rgs_rd {w : World} {H k c P : Nat} {D : Option Addr} {rA : Nat → Option Addr} {rc : Nat → Nat} {rf : Nat → Nat → Int × Int} (ho : w.ownsRow H 41 1 (.slice D k c) k (rowA P rA rc k)) (hr : BkRows w H P rA rc rf k) : RgsRd w w.heap.size D k P rA rc rf :=
  ⟨rowA_rd ho, fun j hj => rowR_rd (hr j hj)⟩
/-- between the steps of the two appends -/
def StG (W W1 : World) (H xb P k : Nat) (cs : Array Value) (rA : Nat → Option Addr) (rc : Nat → Nat) (rf : Nat → Nat → Int × Int) (s1 : Value) (n1 : Nat) (xs1 : List Value) (s2 : Value) (n2 : Nat) (xs2 : List Value) : Prop :=
  Blk W xb 40 cs ∧ W.ownsRow H 41 1 s1 n1 xs1 ∧ W.ownsRow H 49 3 s2 n2 xs2 ∧ BkRows W H P rA rc rf k ∧ Below H W1 W ∧ H ≤ W.heap.size
section
variable {W W1 W' : World} {H xb P k n1 n2 m1 m2 : Nat} {cs : Array Value} {rA : Nat → Option Addr} {rc : Nat → Nat} {rf : Nat → Nat → Int × Int} {s1 s2 s1' s2' : Value} {xs1 xs2 ys1 ys2 : List Value}
theorem StG.alloc (h : StG W W1 H xb P k cs rA rc rf s1 n1 xs1 s2 n2 xs2) (o : Obj) : StG (W.alloc o) W1 H xb P k cs rA rc rf s1 n1 xs1 s2 n2 xs2 :=
  ⟨h.1.alloc o, h.2.1.alloc o, h.2.2.1.alloc o, h.2.2.2.1.below (below_alloc _ _), h.2.2.2.2.1.alloc h.2.2.2.2.2 o, by have := h.2.2.2.2.2; simp; omega⟩
theorem StG.drew (h : StG W W1 H xb P k cs rA rc rf s1 n1 xs1 s2 n2 xs2) : StG W.drew W1 H xb P k cs rA rc rf s1 n1 xs1 s2 n2 xs2 :=
  ⟨h.1.drewN 1, h.2.1.drew, h.2.2.1.drew, fun j hj => (h.2.2.2.1 j hj).drew, h.2.2.2.2.1.drew, h.2.2.2.2.2⟩
theorem StG.push1 (h : StG W W1 H xb P k cs rA rc rf s1 n1 xs1 s2 n2 xs2) (hg : W.grownBy W' s1.ownBlock) (ho : W'.ownsRow H 41 1 s1' m1 ys1) : StG W' W1 H xb P k cs rA rc rf s1' m1 ys1 s2 n2 xs2 :=
  ⟨blk_of_grown h.1 hg (fun e => by have h9 := own_blk h.2.1 e h.1; cases h9), ho, Apart.kept h.2.2.1 (own_other h.2.1 h.2.2.1 (by decide)) hg, h.2.2.2.1.grown h.2.1 (by decide) hg, h.2.2.2.2.1.grown hg h.2.2.2.2.2 (fun q e => (h.2.1.lt q e).1), Nat.le_trans h.2.2.2.2.2 hg.size⟩
theorem StG.push2 (h : StG W W1 H xb P k cs rA rc rf s1 n1 xs1 s2 n2 xs2) (hg : W.grownBy W' s2.ownBlock) (ho : W'.ownsRow H 49 3 s2' m2 ys2) : StG W' W1 H xb P k cs rA rc rf s1 n1 xs1 s2' m2 ys2 :=
  ⟨blk_of_grown h.1 hg (fun e => by have h9 := own_blk h.2.2.1 e h.1; cases h9), Apart.kept h.2.1 (own_other h.2.2.1 h.2.1 (by decide)) hg, ho, h.2.2.2.1.grown h.2.2.1 (by decide) hg, h.2.2.2.2.1.grown hg h.2.2.2.2.2 (fun q e => (h.2.2.1.lt q e).1), Nat.le_trans h.2.2.2.2.2 hg.size⟩
/-- a block of other elements stays when the first row grows -/
theorem StG.keep1 {g : Nat} {t : TypeId} {us : Array Value} (h : StG W W1 H xb P k cs rA rc rf s1 n1 xs1 s2 n2 xs2) (hg : W.grownBy W' s1.ownBlock) (hb : Blk W g t us) (ht : t ≠ 41) : Blk W' g t us :=
  blk_of_grown hb hg fun e => ht (own_blk h.2.1 e hb)
end
theorem cell_slice_new {w : World} {g : Nat} {t : TypeId} {v : Value} (h : Blk w g t #[v]) : ∀ j u, [v][j]? = some u → w.cell? ((⟨g, 0, none⟩ : Addr).add j) = some u := by
  intro j u hu
  rw [Addr.add_lit, Nat.zero_add, h.cell j, ← hu]
  simp
theorem cell_three_of {w : World} {g : Nat} {t : TypeId} {x y z : Value} (h : Blk w g t #[x, y, z]) : ∀ j u, [x, y, z][j]? = some u → w.cell? ((⟨g, 0, none⟩ : Addr).add j) = some u := by
  intro j u hu
  rw [Addr.add_lit, Nat.zero_add, h.cell j, ← hu]
  simp
end Go.Proofs.YtonkjnkokikpgaaGreat
namespace Go.Proofs.YtonkjnkokikpgaaGreat
open Go.RowKit

theorem info55 : (Tryz.prog.info? 55).map (fun i => (i.zero, i.size, i.bytes)) = some (some (.agg #[.int .i64 0, .int .i64 0, .int .i64 0, .int .i64 0, .int .i64 0]), 5, 40) := by kernel_rfl
theorem own_empty {W : World} {g base : Nat} (hg : Blk W g 55 #[]) (hb : base ≤ g) : W.ownsRow base 55 5 (.slice (some ⟨g, 0, none⟩) 0 0) 0 [] :=
  ⟨by simp, .inr ⟨g, 0, #[], rfl, hb, hg, Nat.le_refl _, by unfold maxLen; omega, by simp, by simp⟩⟩
/-- the cells of n periods -/
def rowX (lo hi dm ou sp : Nat → Int) (n : Nat) : List Value := (List.range (n * 5)).map (psc lo hi dm ou sp)
theorem rowX_len {lo hi dm ou sp : Nat → Int} {n : Nat} : (rowX lo hi dm ou sp n).length = n * 5 := by simp [rowX]
theorem rowX_at {lo hi dm ou sp : Nat → Int} {n j : Nat} (h : j < n * 5) : (rowX lo hi dm ou sp n)[j]? = some (psc lo hi dm ou sp j) := by simp [rowX, h]
theorem psc_one (lo hi dm ou sp : Nat → Int) (j : Nat) : (psc lo hi dm ou sp j).oneCell' = true := by
  unfold psc
  split
  · rfl
  split
  · rfl
  split
  · rfl
  split
  · rfl
  · rfl
theorem rowX_one {lo hi dm ou sp : Nat → Int} {n : Nat} : ∀ u ∈ rowX lo hi dm ou sp n, u.oneCell' = true := by
  intro u hu
  simp only [rowX, List.mem_map] at hu
  obtain ⟨j, _, rfl⟩ := hu
  exact psc_one _ _ _ _ _ j
theorem rowX_new {W : World} {B : Nat} {A : Option Addr} {n : Nat} {lo hi dm ou sp : Nat → Int} (h : Rd W B A (n * 5) (psc lo hi dm ou sp)) : ∀ a, A = some a → ∀ j u, (rowX lo hi dm ou sp n)[j]? = some u → W.cell? (a.add j) = some u := by
  intro a ha j u hu
  subst ha
  have hj : j < n * 5 := by
    have h1 := (List.getElem?_eq_some_iff.1 hu).1
    rwa [rowX_len] at h1
  rw [rowX_at hj] at hu
  obtain ⟨b, off, e, _, hc⟩ := h (by omega)
  cases e
  rw [add_none, hc j hj]
  exact hu
theorem rowX_none {W : World} {B : Nat} {A : Option Addr} {n : Nat} {lo hi dm ou sp : Nat → Int} (h : Rd W B A (n * 5) (psc lo hi dm ou sp)) : A = none → n = 0 := by
  intro hA
  subst hA
  cases n with
  | zero => rfl
  | succ n =>
    obtain ⟨b, off, e, _⟩ := h (by omega)
    cases e
/-- a row of periods of the call's own, that may be written -/
def RowP (W : World) (base : Nat) (A : Option Addr) (n : Nat) (lo hi dm ou sp : Nat → Int) : Prop :=
  n = 0 ∨ ∃ g cur, A = some ⟨g, 0, none⟩ ∧ base ≤ g ∧ Blk W g 55 cur ∧ n * 5 ≤ cur.size ∧ ∀ j, j < n * 5 → cur[j]? = some (psc lo hi dm ou sp j)
theorem RowP.of_own {W : World} {base n c : Nat} {A : Option Addr} {lo hi dm ou sp : Nat → Int} (h : W.ownsRow base 55 5 (.slice A n c) n (rowX lo hi dm ou sp n)) : RowP W base A n lo hi dm ou sp := by
  rcases h.2 with ⟨_, h0⟩ | ⟨g, cap, cur, hv, hbg, hg, hle, _, hcs, htake⟩
  · exact .inl h0
  · injection hv with e1 e2 e3
    refine .inr ⟨g, cur, e1, hbg, hg, ?_, fun j hj => ?_⟩
    · rw [hcs]; exact Nat.mul_le_mul_right 5 hle
    · have h1 := rowX_at (lo := lo) (hi := hi) (dm := dm) (ou := ou) (sp := sp) hj
      rw [← htake] at h1
      rw [List.getElem?_take] at h1
      rw [if_pos hj] at h1
      simpa using h1
theorem RowP.rd {W : World} {base n : Nat} {A : Option Addr} {lo hi dm ou sp : Nat → Int} (h : RowP W base A n lo hi dm ou sp) : Rd W W.heap.size A (n * 5) (psc lo hi dm ou sp) := fun hm => by
  rcases h with h | ⟨g, cur, e, _, hb, _, hc⟩
  · omega
  · exact ⟨g, 0, e, hb.lt, fun j hj => by rw [hb.cell, Nat.zero_add]; exact hc j hj⟩
theorem RowP.below {W W' : World} {base n : Nat} {A : Option Addr} {lo hi dm ou sp : Nat → Int} (h : RowP W base A n lo hi dm ou sp) (hb : Below W.heap.size W W') : RowP W' base A n lo hi dm ou sp := by
  rcases h with h | ⟨g, cur, e, hbase, hg, hs, hc⟩
  · exact .inl h
  · exact .inr ⟨g, cur, e, hbase, hg.below hb hg.lt, hs, hc⟩
theorem RowP.far {W : World} {base n : Nat} {A : Option Addr} {lo hi dm ou sp : Nat → Int} (h : RowP W base A n lo hi dm ou sp) {p : Addr} (hp : p.block < base) (u : Value) : RowP (W.setCell p u) base A n lo hi dm ou sp := by
  rcases h with h | ⟨g, cur, e, hbase, hg, hs, hc⟩
  · exact .inl h
  · exact .inr ⟨g, cur, e, hbase, hg.far (by omega) u, hs, hc⟩
/-- the first k inflows are the new ones -/
def mlo (f : Nat → Int × Int) (lo : Nat → Int) (k j : Nat) : Int := if j < k then (f j).1 else lo j
def mhi (f : Nat → Int × Int) (hi : Nat → Int) (k j : Nat) : Int := if j < k then (f j).2 else hi j
theorem mlo_zero (f : Nat → Int × Int) (lo : Nat → Int) : mlo f lo 0 = lo := by funext j; simp [mlo]
theorem mhi_zero (f : Nat → Int × Int) (hi : Nat → Int) : mhi f hi 0 = hi := by funext j; simp [mhi]
theorem mlo_at {f : Nat → Int × Int} {lo : Nat → Int} {k j : Nat} (h : j < k) : mlo f lo k j = (f j).1 := by simp [mlo, h]
theorem mhi_at {f : Nat → Int × Int} {hi : Nat → Int} {k j : Nat} (h : j < k) : mhi f hi k j = (f j).2 := by simp [mhi, h]
theorem RowP.setm {W : World} {base n g k : Nat} {cur : Array Value} {lo hi dm ou sp : Nat → Int} {f : Nat → Int × Int} (hbase : base ≤ g) (hg : Blk W g 55 cur) (hs : n * 5 ≤ cur.size) (hc : ∀ j, j < n * 5 → cur[j]? = some (psc (mlo f lo k) (mhi f hi k) dm ou sp j)) (hk : k < n) :
    RowP ((W.setCell ⟨g, k * 5, none⟩ (.int .i64 (f k).1)).setCell ⟨g, k * 5 + 1, none⟩ (.int .i64 (f k).2)) base (some ⟨g, 0, none⟩) n (mlo f lo (k + 1)) (mhi f hi (k + 1)) dm ou sp := by
  refine .inr ⟨g, _, rfl, hbase, (hg.set_ (k * 5) _).set_ (k * 5 + 1) _, by simpa using hs, fun j hj => ?_⟩
  by_cases e1 : j = k * 5 + 1
  · subst e1
    rw [set_at _ (by simp; omega), psc_1]
    simp [mhi]
  rw [set_off _ (fun h => e1 h.symm)]
  by_cases e0 : j = k * 5
  · subst e0
    rw [set_at _ (by omega), psc_0]
    simp [mlo]
  rw [set_off _ (fun h => e0 h.symm), hc j hj]
  congr 1
  obtain ⟨q, r, hr, rfl⟩ : ∃ q r, r < 5 ∧ j = q * 5 + r := ⟨j / 5, j % 5, by omega, by omega⟩
  rcases r with _ | _ | _ | _ | _ | r
  · rw [Nat.add_zero, psc_0, psc_0]
    have : (q < k) = (q < k + 1) := propext ⟨fun h => by omega, fun h => by omega⟩
    simp only [mlo, this]
  · rw [psc_1, psc_1]
    have : (q < k) = (q < k + 1) := propext ⟨fun h => by omega, fun h => by omega⟩
    simp only [mhi, this]
  · rw [psc_2, psc_2]
  · rw [psc_3, psc_3]
  · rw [psc_4, psc_4]
  · omega
/-- where an own row lies -/
theorem own_addr {w : World} {base e size n c : Nat} {A : Option Addr} {xs : List Value} (h : w.ownsRow base e size (.slice A n c) n xs) : ∀ a, A = some a → base ≤ a.block := by
  intro a ha
  rcases h.2 with ⟨h1, _⟩ | ⟨g, cap, cur, hv, hbg, _⟩
  · cases h1
    cases ha
  · injection hv with e1 _ _
    rw [e1] at ha
    cases ha
    exact hbg
theorem Rd.far {w : World} {B m : Nat} {A : Option Addr} {f : Nat → Value} (h : Rd w B A m f) {p : Addr} (hne : ∀ a, A = some a → a.block ≠ p.block) (u : Value) : Rd (w.setCell p u) B A m f := fun hm => by
  obtain ⟨b, off, e, hb, hc⟩ := h hm
  refine ⟨b, off, e, hb, fun j hj => ?_⟩
  rw [World.cell?_setCell_far w p ⟨b, off + j, none⟩ u (fun e' => hne _ e e'.symm)]
  exact hc j hj
theorem lastP_far {w : World} {B k P sb : Nat} {D : Option Addr} {bd : Nat → Int} {rA : Nat → Option Addr} {rc : Nat → Nat} {rf : Nat → Nat → Int × Int} {s : Nat → Nat} (h : PastRd w B D k (lastP bd rA rc rf sb P s)) {p : Addr} (h1 : ∀ a, D = some a → a.block ≠ p.block) (h2 : ∀ j, j < k → ∀ a, rA j = some a → a.block ≠ p.block) (h3 : sb ≠ p.block) (u : Value) :
    PastRd (w.setCell p u) B D k (lastP bd rA rc rf sb P s) :=
  ⟨h.1.far h1 u, fun j hj => ⟨⟨(h.2 j hj).1.1.far (h2 j hj) u, (h.2 j hj).1.2⟩, (h.2 j hj).2.1.far (fun a ha => by cases ha; exact h3) u, (h.2 j hj).2.2⟩⟩
/-- an inflow that is not within the plan breaks the bound of some body -/
theorem broken_some {n P t : Nat} {rf : Nat → Nat → Int × Int} {f : Nat → Int × Int} {bd : Nat → Int} {rA : Nat → Option Addr} {rc : Nat → Nat} {sb : Nat} {s : Nat → Nat} (h : MtF n P rf f) (ht : t < P) (hs : ((s t : Nat) : Int) < (f t).1 ∨ (f t).2 < ((s t : Nat) : Int)) : ∃ j, j < n ∧ brB (lastP bd rA rc rf sb P s) t j = true := by
  obtain ⟨⟨j, hj, e1⟩, i, hi, e2⟩ := h t ht
  rcases hs with hs | hs
  · refine ⟨j, hj, ?_⟩
    show (decide (((s t : Nat) : Int) < (rf j t).1) || decide ((rf j t).2 < ((s t : Nat) : Int))) = true
    rw [← e1, decide_eq_true hs]
    rfl
  · refine ⟨i, hi, ?_⟩
    show (decide (((s t : Nat) : Int) < (rf i t).1) || decide ((rf i t).2 < ((s t : Nat) : Int))) = true
    rw [← e2, decide_eq_true hs]
    simp
end Go.Proofs.YtonkjnkokikpgaaGreat
