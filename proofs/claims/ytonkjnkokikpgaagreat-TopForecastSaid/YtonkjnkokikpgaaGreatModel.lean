/- Words for memory and small laws that all proofs of this seat share. Plain lemmas; no condition. What the functions on plans compute, in plain words. Plain laws; no program in sight. -/
import Derived.WalkKit
import Derived.Lib.Hide
import Derived.Deep.AppendLies
import Derived.Deep.Draws
import Derived.Test.YtonkjnkokikpgaaGreatRows
namespace Go.Proofs.YtonkjnkokikpgaaGreat
open Go.RowKit

theorem ret_int {k : IntKind} {a b : Int} (h : a = b) : Ending.returned (.int k a) = .returned (.int k b) := by rw [h]
theorem ret_int2 {k k' : IntKind} {a b a' b' : Int} (h : a = b) (h' : a' = b') :
    Ending.returned (.tuple #[.int k a, .int k' a']) = .returned (.tuple #[.int k b, .int k' b']) := by rw [h, h']
theorem ret_bool {a b : Bool} (h : a = b) : Ending.returned (.bool a) = .returned (.bool b) := by rw [h]
theorem ret_val {a b : Value} (h : a = b) : Ending.returned a = .returned b := by rw [h]

theorem results_tmp4 {fn : Func} {t u v x : Tmp} (h : fn.results = #[.tmp t, .tmp u, .tmp v, .tmp x]) (tmps : Array Value) (P : Program) (w : World) :
    (results fn tmps).run P w = .ok (.tuple #[tmps.getD t undef, tmps.getD u undef, tmps.getD v undef, tmps.getD x undef]) w := by simp [results, h]

/-- a machine integer -/
def I64 (n : Int) : Prop := -9223372036854775808 ≤ n ∧ n ≤ 9223372036854775807
theorem i64_small {n : Int} (h1 : -9223372036854775808 ≤ n) (h2 : n ≤ 9223372036854775807) : I64 n := ⟨h1, h2⟩

theorem add_none (b o j : Nat) : (⟨b, o, none⟩ : Addr).add j = ⟨b, o + j, none⟩ := by
  unfold Addr.add
  by_cases h : j = 0 <;> simp [h]
theorem add_block (a : Addr) (n : Nat) : (a.add n).block = a.block := by unfold Addr.add; split <;> rfl
theorem add_add (a : Addr) (i j : Nat) : (a.add i).add j = a.add (i + j) := by
  unfold Addr.add
  by_cases hi : i = 0 <;> by_cases hj : j = 0 <;> simp [hi, hj, Nat.add_assoc]

/-- a slice value with address A reads, below block B, as the m cells f 0, .., f (m - 1); nothing is said where m is 0 -/
def Rd (w : World) (B : Nat) (A : Option Addr) (m : Nat) (f : Nat → Value) : Prop :=
  0 < m → ∃ b off, A = some ⟨b, off, none⟩ ∧ b < B ∧ ∀ j, j < m → w.cell? ⟨b, off + j, none⟩ = some (f j)

section
variable {w w' : World} {B B' m : Nat} {A : Option Addr} {f : Nat → Value}
theorem Rd.nil : Rd w B A 0 f := fun h => absurd h (by omega)
theorem Rd.keep (h : Rd w B A m f) (hk : ∀ p : Addr, p.block < B → w'.cell? p = w.cell? p) : Rd w' B A m f := fun hm => by
  obtain ⟨b, off, e, hb, hc⟩ := h hm
  exact ⟨b, off, e, hb, fun j hj => (hk ⟨b, off + j, none⟩ hb).trans (hc j hj)⟩
theorem Rd.mono (h : Rd w B A m f) (hB : B ≤ B') : Rd w B' A m f := fun hm => by
  obtain ⟨b, off, e, hb, hc⟩ := h hm
  exact ⟨b, off, e, by omega, hc⟩
theorem Rd.below (h : Rd w B A m f) (hb : Below B w w') : Rd w' B A m f := h.keep fun _ hp => hb.cell hp
theorem Rd.alloc (h : Rd w B A m f) (hB : B ≤ w.heap.size) (o : Obj) : Rd (w.alloc o) B A m f := h.keep fun p hp => World.cell?_alloc_lt w o p (by omega)
theorem Rd.setCell (h : Rd w B A m f) {p : Addr} (hB : B ≤ p.block) (u : Value) : Rd (w.setCell p u) B A m f :=
  h.keep fun q hq => World.cell?_setCell_other w p q u (fun e => by subst e; omega)
theorem Rd.drewN (h : Rd w B A m f) (k : Nat) : Rd (w.drewN k) B A m f := h
theorem Rd.drew (h : Rd w B A m f) : Rd w.drew B A m f := h
theorem Rd.quiet (h : Rd w B A m f) (hq : ∃ k, w' = w.drewN k) : Rd w' B A m f := by obtain ⟨k, rfl⟩ := hq; exact h
theorem Rd.congr {g : Nat → Value} (h : Rd w B A m f) (hg : ∀ j, j < m → f j = g j) : Rd w B A m g := fun hm => by
  obtain ⟨b, off, e, hb, hc⟩ := h hm
  exact ⟨b, off, e, hb, fun j hj => by rw [← hg j hj]; exact hc j hj⟩
theorem Rd.less {k : Nat} (h : Rd w B A m f) (hk : k ≤ m) : Rd w B A k f := fun hm => by
  obtain ⟨b, off, e, hb, hc⟩ := h (by omega)
  exact ⟨b, off, e, hb, fun j hj => hc j (by omega)⟩
theorem Rd.of_add {ad : Addr} (hb : ad.block < B) (h : ∀ j, j < m → w.cell? (ad.add j) = some (f j)) : Rd w B (some ad) m f := fun hm => by
  obtain ⟨b, off, spot⟩ := ad
  have hs : spot = none := by simpa [Addr.add] using World.cell?_spot (h 0 hm)
  subst hs
  exact ⟨b, off, rfl, hb, fun j hj => by rw [← add_none]; exact h j hj⟩
theorem Rd.of_own {base : Nat} {e : TypeId} {size n c : Nat} {xs : List Value} (h : w.ownsRow base e size (.slice A n c) n xs) (hf : ∀ j, j < n * size → xs[j]? = some (f j)) :
    Rd w w.heap.size A (n * size) f := fun hm => by
  have hn : 0 < n := Nat.pos_of_ne_zero fun e => by subst e; simp at hm
  obtain ⟨g, cap, hv, _, hlt⟩ := h.form hn
  have hA : A = some ⟨g, 0, none⟩ := by injection hv
  subst hA
  exact ⟨g, 0, rfl, hlt, fun j hj => by rw [← add_none]; exact h.cells (g := g) rfl j _ (hf j hj)⟩
end

theorem quiet_refl (w : World) : ∃ m, w = w.drewN m := ⟨0, rfl⟩
theorem quiet_trans {a b c : World} (h : ∃ m, b = a.drewN m) (k : ∃ m, c = b.drewN m) : ∃ m, c = a.drewN m := by
  obtain ⟨m, rfl⟩ := h
  obtain ⟨n, rfl⟩ := k
  exact ⟨m + n, World.drewN_drewN _ _ _⟩
theorem below_quiet {B : Nat} {a b c : World} (h : Below B a b) (k : ∃ m, c = b.drewN m) : Below B a c := by
  obtain ⟨m, rfl⟩ := k
  exact ⟨h.os, h.tape, h.output, h.size, h.block⟩

/-- block g is just the cells cs of element type t; none is frozen -/
def Blk (w : World) (g : Nat) (t : TypeId) (cs : Array Value) : Prop := w.heap[g]? = some (.cells cs t (0, 0))

section
variable {w w' : World} {g : Nat} {t : TypeId} {cs : Array Value}
theorem Blk.lt (h : Blk w g t cs) : g < w.heap.size := by
  rcases Nat.lt_or_ge g w.heap.size with hlt | hge
  · exact hlt
  · unfold Blk at h; rw [Array.getElem?_eq_none hge] at h; cases h
theorem Blk.cell (h : Blk w g t cs) (i : Nat) : w.cell? ⟨g, i, none⟩ = cs[i]? := cell_of_row w g i cs t (0, 0) h
theorem Blk.frozen (h : Blk w g t cs) (i : Nat) : w.frozen? ⟨g, i, none⟩ = false := by
  unfold Blk at h
  simp [World.frozen?, h]
theorem Blk.new (w : World) (t : TypeId) (cs : Array Value) : Blk (w.alloc (.cells cs t)) w.heap.size t cs := heap_alloc_new w _
theorem Blk.alloc (h : Blk w g t cs) (o : Obj) : Blk (w.alloc o) g t cs := (Below.heap_alloc w o g h.lt).trans h
theorem Blk.below {B : Nat} (h : Blk w g t cs) (hb : Below B w w') (hg : g < B) : Blk w' g t cs := (hb.block g hg).trans h
theorem Blk.drewN (h : Blk w g t cs) (k : Nat) : Blk (w.drewN k) g t cs := h
theorem Blk.far (h : Blk w g t cs) {p : Addr} (hp : g ≠ p.block) (u : Value) : Blk (w.setCell p u) g t cs := (Below.heap_setCell w p u g hp).trans h
theorem Blk.set_ (h : Blk w g t cs) (i : Nat) (u : Value) : Blk (w.setCell ⟨g, i, none⟩ u) g t (cs.setIfInBounds i u) := by
  unfold Blk at h ⊢
  simp [World.setCell, Array.getElem?_modify, h]
theorem Blk.rd (h : Blk w g t cs) (f : Nat → Value) (hf : ∀ j, j < cs.size → cs[j]? = some (f j)) : Rd w w.heap.size (some ⟨g, 0, none⟩) cs.size f := fun _ =>
  ⟨_, _, rfl, h.lt, fun j hj => by rw [h.cell, Nat.zero_add]; exact hf j hj⟩
end

/-- a block that was just laid, read as a slice -/
theorem rd_new (w : World) (cs : Array Value) (t : TypeId) (f : Nat → Value) (hf : ∀ j, j < cs.size → cs[j]? = some (f j)) :
    Rd (w.alloc (.cells cs t)) (w.heap.size + 1) (some ⟨w.heap.size, 0, none⟩) cs.size f := by
  have := (Blk.new w t cs).rd f hf
  rwa [World.size_alloc] at this

theorem below_alloc (w : World) (o : Obj) : Below w.heap.size w (w.alloc o) := (Below.refl _ _).alloc (Nat.le_refl _) o

/-- of worlds that agree below B: what comes behind a world with a greater heap -/
theorem below_then {B : Nat} {a b c : World} (h : Below B a b) (k : Below b.heap.size b c) (hB : B ≤ a.heap.size) : Below B a c :=
  h.trans (k.mono (Nat.le_trans hB h.size))

end Go.Proofs.YtonkjnkokikpgaaGreat
namespace Go.Proofs.YtonkjnkokikpgaaGreat
open Go.RowKit

/-- do numbers not decrease? -/
def ri3 (a b c : Int) : Bool := decide (a ≤ b) && decide (b ≤ c)
def ri4 (a b c d : Int) : Bool := (decide (a ≤ b) && decide (b ≤ c)) && decide (c ≤ d)
theorem ri3_iff {a b c : Int} : ri3 a b c = true ↔ a ≤ b ∧ b ≤ c := by simp [ri3]
theorem ri4_iff {a b c d : Int} : ri4 a b c d = true ↔ a ≤ b ∧ b ≤ c ∧ c ≤ d := by simp [ri4, and_assoc]
/-- are the first n numbers rising? -/
def risB (f : Nat → Int) : Nat → Bool
  | 0 => true
  | k + 1 => risB f k && (decide (k = 0) || decide (f (k - 1) ≤ f k))
theorem risB_bad {f : Nat → Int} {k : Nat} (hk : 0 < k) (h : f k < f (k - 1)) : ∀ n, k < n → risB f n = false
  | 0, hn => absurd hn (by omega)
  | n + 1, hn => by
    by_cases e : k = n
    · subst e
      have h1 : ¬ k = 0 := by omega
      have h2 : ¬ f (k - 1) ≤ f k := by omega
      simp [risB, h1, h2]
    · simp [risB, risB_bad hk h n (by omega)]
/-- the cells of periods: five each -/
def psc (lo hi dm ou sp : Nat → Int) (j : Nat) : Value :=
  if j % 5 = 0 then .int .i64 (lo (j / 5)) else if j % 5 = 1 then .int .i64 (hi (j / 5)) else if j % 5 = 2 then .int .i64 (dm (j / 5)) else if j % 5 = 3 then .int .i64 (ou (j / 5)) else .int .i64 (sp (j / 5))
section
variable (lo hi dm ou sp : Nat → Int) (j : Nat)
theorem psc_0 : psc lo hi dm ou sp (j * 5) = .int .i64 (lo j) := by
  unfold psc; rw [if_pos (by omega), show j * 5 / 5 = j by omega]
theorem psc_1 : psc lo hi dm ou sp (j * 5 + 1) = .int .i64 (hi j) := by
  unfold psc; rw [if_neg (by omega), if_pos (by omega), show (j * 5 + 1) / 5 = j by omega]
theorem psc_2 : psc lo hi dm ou sp (j * 5 + 2) = .int .i64 (dm j) := by
  unfold psc; rw [if_neg (by omega), if_neg (by omega), if_pos (by omega), show (j * 5 + 2) / 5 = j by omega]
theorem psc_3 : psc lo hi dm ou sp (j * 5 + 3) = .int .i64 (ou j) := by
  unfold psc; rw [if_neg (by omega), if_neg (by omega), if_neg (by omega), if_pos (by omega), show (j * 5 + 3) / 5 = j by omega]
theorem psc_4 : psc lo hi dm ou sp (j * 5 + 4) = .int .i64 (sp j) := by
  unfold psc; rw [if_neg (by omega), if_neg (by omega), if_neg (by omega), if_neg (by omega), show (j * 5 + 4) / 5 = j by omega]
end
/-- a period -/
theorem per_at {w : World} {B : Nat} {PA : Option Addr} {n : Nat} {lo hi dm ou sp : Nat → Int} (h : Rd w B PA (n * 5) (psc lo hi dm ou sp)) {j : Nat} (hj : j < n) : ∃ b off, PA = some ⟨b, off, none⟩ ∧ b < B ∧ w.cell? ⟨b, off + j * 5, none⟩ = some (.int .i64 (lo j)) ∧ w.cell? ⟨b, off + j * 5 + 1, none⟩ = some (.int .i64 (hi j)) ∧
    w.cell? ⟨b, off + j * 5 + 2, none⟩ = some (.int .i64 (dm j)) ∧ w.cell? ⟨b, off + j * 5 + 3, none⟩ = some (.int .i64 (ou j)) ∧ w.cell? ⟨b, off + j * 5 + 4, none⟩ = some (.int .i64 (sp j)) := by
  obtain ⟨b, off, e, hb, hc⟩ := h (by omega)
  refine ⟨b, off, e, hb, ?_, ?_, ?_, ?_, ?_⟩
  · rw [hc (j * 5) (by omega), psc_0]
  · rw [Nat.add_assoc, hc (j * 5 + 1) (by omega), psc_1]
  · rw [Nat.add_assoc, hc (j * 5 + 2) (by omega), psc_2]
  · rw [Nat.add_assoc, hc (j * 5 + 3) (by omega), psc_3]
  · rw [Nat.add_assoc, hc (j * 5 + 4) (by omega), psc_4]

/-- is the tank right? -/
def okT (cp st fl : Int) : Bool := ri4 0 st cp 1099511627776 && ri3 0 fl cp
/-- is a period right? -/
def okP (lo hi dm ou sp : Nat → Int) (j : Nat) : Bool := (ri4 0 (lo j) (hi j) 1099511627776 && ri4 0 (dm j) (ou j) 1099511627776) && ri3 0 (sp j) 1099511627776
def okN (lo hi dm ou sp : Nat → Int) : Nat → Bool
  | 0 => true
  | j + 1 => okN lo hi dm ou sp j && okP lo hi dm ou sp j
/-- the error of Check -/
def chkE (cp st fl : Int) (n : Nat) (lo hi dm ou sp : Nat → Int) : Int := if 64 < n then 2 else if (okT cp st fl && okN lo hi dm ou sp n) = true then 0 else 390
section
variable {cp st fl : Int} {n : Nat} {lo hi dm ou sp : Nat → Int}
theorem okN_at : ∀ n, okN lo hi dm ou sp n = true → ∀ j, j < n → okP lo hi dm ou sp j = true
  | 0, _, j, hj => absurd hj (by omega)
  | n + 1, h, j, hj => by
    simp only [okN, Bool.and_eq_true] at h
    by_cases e : j = n
    · subst e; exact h.2
    · exact okN_at n h.1 j (by omega)
theorem okN_of (n : Nat) (h : ∀ j, j < n → okP lo hi dm ou sp j = true) : okN lo hi dm ou sp n = true := by
  induction n with
  | zero => rfl
  | succ n ih => rw [okN, ih (fun j hj => h j (by omega)), h n (by omega)]; rfl
theorem okN_bad {j : Nat} (h : okP lo hi dm ou sp j = false) : ∀ n, j < n → okN lo hi dm ou sp n = false
  | 0, hn => absurd hn (by omega)
  | n + 1, hn => by
    by_cases e : j = n
    · subst e; simp [okN, h]
    · simp [okN, okN_bad h n (by omega)]
/-- a right period -/
theorem okP_iff {j : Nat} : okP lo hi dm ou sp j = true ↔ (0 ≤ lo j ∧ lo j ≤ hi j ∧ hi j ≤ 1099511627776) ∧ (0 ≤ dm j ∧ dm j ≤ ou j ∧ ou j ≤ 1099511627776) ∧ 0 ≤ sp j ∧ sp j ≤ 1099511627776 := by
  unfold okP; rw [Bool.and_eq_true, Bool.and_eq_true, ri4_iff, ri4_iff, ri3_iff, and_assoc]
/-- a right course -/
theorem chk_zero (h : chkE cp st fl n lo hi dm ou sp = 0) : n ≤ 64 ∧ (0 ≤ st ∧ st ≤ cp ∧ cp ≤ 1099511627776) ∧ (0 ≤ fl ∧ fl ≤ cp) ∧ ∀ j, j < n → okP lo hi dm ou sp j = true := by
  unfold chkE at h
  split at h
  · cases h
  split at h
  · rename_i h1 h2
    rw [Bool.and_eq_true, okT, Bool.and_eq_true, ri4_iff, ri3_iff] at h2
    exact ⟨by omega, h2.1.1, h2.1.2, okN_at n h2.2⟩
  · cases h

/-! ### robust stores -/
/-- from which to which store is kept after a release, if the stores of the next moment are robust -/
def kpL (lo : Nat → Int) (t : Nat) (r : Int × Int) : Int := max 0 (r.1 - lo t)
def kpH (cp : Int) (hi sp : Nat → Int) (t : Nat) (r : Int × Int) : Int := (if r.2 = cp then cp + sp t else r.2) - hi t
/-- the robust stores of a moment, with those of the next one -/
def bef (cp : Int) (lo hi dm ou sp : Nat → Int) (t : Nat) (r : Int × Int) : Int × Int :=
  if r.2 < r.1 then (1, 0) else if kpH cp hi sp t r < kpL lo t r then (1, 0) else if min cp (kpH cp hi sp t r + ou t) < kpL lo t r + dm t then (1, 0) else (kpL lo t r + dm t, min cp (kpH cp hi sp t r + ou t))
/-- what may remain after the release -/
def rst (cp : Int) (lo hi sp : Nat → Int) (t : Nat) (r : Int × Int) : Int × Int := if r.2 < r.1 then (1, 0) else (kpL lo t r, kpH cp hi sp t r)
/-- the robust stores, k moments ahead of the end -/
def rbk (cp fl : Int) (n : Nat) (lo hi dm ou sp : Nat → Int) : Nat → Int × Int
  | 0 => (fl, cp)
  | k + 1 => bef cp lo hi dm ou sp (n - 1 - k) (rbk cp fl n lo hi dm ou sp k)
/-- the robust stores of moment t -/
def rb (cp fl : Int) (n : Nat) (lo hi dm ou sp : Nat → Int) (t : Nat) : Int × Int := rbk cp fl n lo hi dm ou sp (n - t)
theorem rb_end : rb cp fl n lo hi dm ou sp n = (fl, cp) := by simp [rb, rbk]
theorem rb_step {t : Nat} (ht : t < n) : rb cp fl n lo hi dm ou sp t = bef cp lo hi dm ou sp t (rb cp fl n lo hi dm ou sp (t + 1)) := by
  unfold rb
  rw [show n - t = (n - (t + 1)) + 1 by omega, rbk, show n - 1 - (n - (t + 1)) = t by omega]
/-- is it no range, or a right one? -/
def ok2 (cp : Int) (r : Int × Int) : Prop := r = (1, 0) ∨ 0 ≤ r.1 ∧ r.1 ≤ r.2 ∧ r.2 ≤ cp
theorem bef_ok {t : Nat} {r : Int × Int} (hd : 0 ≤ dm t) : ok2 cp (bef cp lo hi dm ou sp t r) := by
  unfold bef
  split
  · exact .inl rfl
  split
  · exact .inl rfl
  split
  · exact .inl rfl
  · right
    have h0 : 0 ≤ kpL lo t r := by unfold kpL; omega
    exact ⟨by show 0 ≤ kpL lo t r + dm t; omega, by show kpL lo t r + dm t ≤ min cp (kpH cp hi sp t r + ou t); omega, by show min cp (kpH cp hi sp t r + ou t) ≤ cp; omega⟩
end
end Go.Proofs.YtonkjnkokikpgaaGreat
