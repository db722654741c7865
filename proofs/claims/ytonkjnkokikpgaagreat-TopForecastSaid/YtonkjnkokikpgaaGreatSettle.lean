/- Settle: what holds between two rounds of its loop. Settle: the plain part. Contract of stakes.Settle. -/
import Derived.Test.YtonkjnkokikpgaaGreatForfeit
import Derived.Test.YtonkjnkokikpgaaGreatShare
namespace Go.Proofs.YtonkjnkokikpgaaGreat
open Go.RowKit

theorem KpF.grown {n₀ : Nat} {A B : World} {row : Option Nat} (hg : A.grownBy B row) (hn : n₀ ≤ A.heap.size) (hr : ∀ k, row = some k → n₀ ≤ k ∧ ∀ t cs, Blk A k t cs → t ≠ 66 ∧ t ≠ 23) : KpF n₀ A B :=
  ⟨(Below.refl _ A).grown hg hn (fun k e => (hr k e).1), fun k t cs h hb => blk_of_grown hb hg fun e => by
    obtain ⟨_, h3⟩ := hr k e
    have := h3 t cs hb
    rcases h with h | h
    · exact this.1 h
    · exact this.2 h⟩
/-- what is paid -/
def payF (xs : List (Nat × Int)) : List Value := xs.map fun x => .int .i64 x.2
theorem payF_snoc (xs : List (Nat × Int)) (x : Nat × Int) : payF xs ++ [.int .i64 x.2] = payF (xs ++ [x]) := by simp [payF]
/-- the sum of what is paid -/
def sumF (xs : List (Nat × Int)) : Int := xs.foldl (fun a x => a + x.2) 0
theorem sumF_snoc (xs : List (Nat × Int)) (x : Nat × Int) : sumF (xs ++ [x]) = sumF xs + x.2 := by simp [sumF]
/-- between two rounds of the loop of Settle -/
def InS (n₀ pb tb H : Nat) (w0 : World) (xs : List (Nat × Int)) (W : World) : Prop :=
  (∃ v, Boxed W pb 36 v ∧ W.ownsRow H 3 1 v xs.length (payF xs) ∧ True) ∧ Blk W tb 3 #[.int .i64 (sumF xs)] ∧ Below n₀ w0 W ∧ H ≤ W.heap.size
theorem InS.own {n₀ pb tb H : Nat} {w0 : World} (h0 : n₀ ≤ H) (h1 : tb < H) : OwnFrom H (InS n₀ pb tb H w0) := fun s X Y row hs hg hr =>
  ⟨holdsRow_own H pb 36 3 1 (fun s : List (Nat × Int) => s.length) payF (fun _ _ => True) s X Y row hs.1 hg (fun r e => (hr r e).2), (hg.block tb hs.2.1.lt (fun e => by have := (hr tb e.symm).1; omega)).trans hs.2.1, hs.2.2.1.grown hg (by have := hs.2.2.2; omega) (fun k e => by have := (hr k e).1; omega), Nat.le_trans hs.2.2.2 hg.size⟩
theorem InS.below {n₀ pb tb H : Nat} {w0 : World} (h0 : n₀ ≤ H) : ∀ s A B, InS n₀ pb tb H w0 s A → Below A.heap.size A B → InS n₀ pb tb H w0 s B := fun s A B hs hb => by
  obtain ⟨⟨v, hv, hr, _⟩, ht, hbl, hz⟩ := hs
  exact ⟨⟨v, (hb.block _ (Array.getElem?_eq_some_iff.1 hv).1).trans hv, own_below hr hb, trivial⟩, ht.below hb ht.lt, hbl.trans (hb.mono (by omega)), Nat.le_trans hz hb.size⟩
theorem InS.push {n₀ pb tb H k : Nat} {w0 W w3 : World} {pre : List (Nat × Int)} {x : Nat × Int} {A1 A3 : Option Addr} {c1 c3 : Nat} {o : Obj} (act : Act) (hk : k = pre.length) (hpb : n₀ ≤ pb ∧ pb < tb) (hH : tb < H) (hb : Below n₀ w0 W) (hz : H ≤ W.heap.size) (ht : Blk W tb 3 #[.int .i64 (sumF pre)])
    (hO : W.ownsRow H 3 1 (.slice A1 k c1) k (payF pre)) (hg : (W.alloc o).grownBy w3 (Value.slice A1 k c1).ownBlock) (hv3 : Boxed w3 pb 36 (.slice A1 k c1))
    (hO3 : w3.ownsRow H 3 1 (.slice A3 (k + 1) c3) (k + 1) (payF pre ++ [.int .i64 x.2])) :
    ownPostG H (KpF n₀) (InS n₀ pb tb H w0) (fun _ _ _ => False) (pre ++ [x]) W .normal act ((w3.setCell ⟨pb, 0, none⟩ (.slice A3 (k + 1) c3)).setCell ⟨tb, 0, none⟩ (.int .i64 (sumF pre + x.2))) := by
  subst hk
  have hs := hg.size
  simp at hs
  have hg4 := grownBy_setCell' w3 pb (.slice A3 (pre.length + 1) c3)
  have hz3 := hg4.size
  have ht3 : Blk w3 tb 3 #[.int .i64 (sumF pre)] := (hg.block tb (by simp; omega) (fun e => by have := (hO.lt tb e.symm).1; omega)).trans (ht.alloc o)
  have hv4 : Boxed (w3.setCell ⟨pb, 0, none⟩ (.slice A3 (pre.length + 1) c3)) pb 36 (.slice A3 (pre.length + 1) c3) := hv3.set _
  have ht4 : Blk (w3.setCell ⟨pb, 0, none⟩ (.slice A3 (pre.length + 1) c3)) tb 3 #[.int .i64 (sumF pre)] := ht3.far (show tb ≠ pb by omega) _
  have hg5 := grownBy_setCell' (w3.setCell ⟨pb, 0, none⟩ (.slice A3 (pre.length + 1) c3)) tb (.int .i64 (sumF pre + x.2))
  have hz5 := hg5.size
  have hO4 : (w3.setCell ⟨pb, 0, none⟩ (.slice A3 (pre.length + 1) c3)).ownsRow H 3 1 (.slice A3 (pre.length + 1) c3) (pre ++ [x]).length (payF (pre ++ [x])) := by
    have := hO3.kept hg4 (.inr fun e => hv3.not_row (by decide) hO3 e.symm)
    rw [payF_snoc] at this
    rw [List.length_append]
    exact this
  refine ⟨((((KeepsOthers.alloc _ _).trans (KeepsOthers.of_grownBy hg ?_)).trans (KeepsOthers.setCell _ _ _)).trans (KeepsOthers.setCell _ _ _)).from _, (((KpF.grown (World.grownBy_alloc W o none) (by omega) (fun k e => by cases e)).trans (KpF.grown hg (by simp; omega) (fun k e => ⟨by have := (hO.lt k e).1; omega, fun t cs hb' => by rw [own_blk (hO.alloc o) e hb']; decide⟩))).trans (KpF.grown hg4 (by omega) (fun k e => ⟨by injection e with e; omega, fun t cs hb' => by
    injection e with e
    subst e
    unfold Blk at hb'
    unfold Boxed at hv3
    rw [hv3] at hb'
    cases hb'
    decide⟩))).trans (KpF.grown hg5 (by omega) (fun k e => ⟨by injection e with e; omega, fun t cs hb' => by
    injection e with e
    subst e
    unfold Blk at hb' ht4
    rw [ht4] at hb'
    cases hb'
    decide⟩)), ⟨_, hv4.kept hg5 (fun e => by injection e with e; omega), ownsRow_setCell_below hO4 (a := ⟨tb, 0, none⟩) hH _, trivial⟩, ?_, ?_, by omega⟩
  · intro j o' hj ho'
    rcases (hO.alloc o).2 with ⟨e, _⟩ | ⟨g, cap, cur, e, _, hgb, _⟩
    · rw [e] at hj; cases hj
    · rw [e] at hj
      obtain rfl : g = j := by simpa [Value.ownBlock] using hj
      rw [hgb] at ho'
      cases ho'
      rfl
  · rw [sumF_snoc]
    exact ht4.set_ 0 _
  · exact (((hb.alloc (by omega) o).grown hg (by simp; omega) (fun k e => by have := (hO.lt k e).1; omega)).grown hg4 (by omega) (fun k e => by injection e with e; omega)).grown hg5 (by omega) (fun k e => by injection e with e; omega)
end Go.Proofs.YtonkjnkokikpgaaGreat
namespace Go.Proofs.YtonkjnkokikpgaaGreat
open Go.RowKit

theorem ffV_in (s : StkF) (p : PastF) (ix : Nat → Nat) (i : Nat) (h1 : 0 ≤ s.dp i) (h2 : 0 ≤ s.rt i) : 0 ≤ ffV s p ix i ∧ ffV s p ix i ≤ s.dp i := by
  unfold ffV
  have h3 : 0 ≤ s.rt i * max (max ((p.rf (ix i) (s.pd i).toNat).1 - p.sv (ix i) (s.pd i).toNat) (p.sv (ix i) (s.pd i).toNat - (p.rf (ix i) (s.pd i).toNat).2)) 0 := Int.mul_nonneg h2 (by omega)
  omega
theorem fzL_at (s : StkF) (p : PastF) (ix : Nat → Nat) : ∀ n j, j < n → (fzL s p ix n)[j]? = some (j, ffV s p ix j)
  | 0, j, h => by omega
  | n + 1, j, h => by
    have hl := fzL_len s p ix n
    rw [fzL]
    by_cases e : j = n
    · subst e
      rw [List.getElem?_append_right (by omega), hl, Nat.sub_self]
      rfl
    · rw [List.getElem?_append_left (by omega)]
      exact fzL_at s p ix n j (by omega)
theorem payF_at (s : StkF) (p : PastF) (ix : Nat → Nat) {n j : Nat} (h : j < n) : (payF (fzL s p ix n))[j]? = some (.int .i64 (ffV s p ix j)) := by
  unfold payF
  rw [List.getElem?_map, fzL_at s p ix n j h]
  rfl
theorem fzL_take (s : StkF) (p : PastF) (ix : Nat → Nat) {n : Nat} {pre r : List (Nat × Int)} (h : fzL s p ix n = pre ++ r) : pre = fzL s p ix pre.length := by
  have hl := fzL_len s p ix n
  rw [h, List.length_append] at hl
  apply List.ext_getElem?
  intro j
  by_cases hj : j < pre.length
  · have h1 := fzL_at s p ix n j (by omega)
    rw [h, List.getElem?_append_left hj] at h1
    rw [h1, fzL_at s p ix pre.length j hj]
  · rw [List.getElem?_eq_none (by omega), List.getElem?_eq_none (by rw [fzL_len]; omega)]
theorem sumF_in (s : StkF) (p : PastF) (ix : Nat → Nat) (n : Nat) (h : ∀ i, i < n → 0 ≤ ffV s p ix i ∧ ffV s p ix i ≤ 65535) : ∀ k, k ≤ n → 0 ≤ sumF (fzL s p ix k) ∧ sumF (fzL s p ix k) ≤ 65535 * k
  | 0, _ => by simp [fzL, sumF]
  | k + 1, hk => by
    obtain ⟨h1, h2⟩ := sumF_in s p ix n h k (by omega)
    have h3 := h k (by omega)
    rw [fzL, sumF_snoc]
    simp only
    omega
end Go.Proofs.YtonkjnkokikpgaaGreat
namespace Go.Proofs.YtonkjnkokikpgaaGreat
open Go.RowKit

attribute [local go_sem] Oper.semAt_some
/-- what Settle hands back -/
def SetR (n k : Nat) (s : StkF) (p : PastF) (ix : Nat → Nat) (e : Ending) (w' : World) : Prop :=
  ∃ (D1 D2 : Option Addr) (c1 c2 rest : Nat) (sv : Nat → Nat), e = .returned (.tuple #[.slice D1 n c1, .slice D2 k c2, .int .i64 rest, .int .i64 0]) ∧ Rd w' w'.heap.size D1 n (fun j => .int .i64 (ffV s p ix j)) ∧ Rd w' w'.heap.size D2 k (fun j => .int .i64 (sv j)) ∧ (sumM sv k : Int) + rest = sumF (fzL s p ix n)

theorem results_cell_tmp4 {fn : Func} {p u v x : Tmp} {ty : TypeId} (h : fn.results = #[.cell p ty, .tmp u, .tmp v, .tmp x]) (tmps : Array Value) (P : Program) (w : World) :
    (results fn tmps).run P w =
      ((asAddr (tmps.getD p undef)).run P w).andThen fun a w₁ => ((loadVar ty a).run P w₁).andThen fun r w₂ => .ok (.tuple #[r, tmps.getD u undef, tmps.getD v undef, tmps.getD x undef]) w₂ := by
  simp only [results, h]
  simp [Sem.run_bind, Result.andThen]
theorem results_slice36' {fn : Func} {p u v x : Tmp} (h : fn.results = #[.cell p 36, .tmp u, .tmp v, .tmp x]) (tmps : Array Value) (w : World) (g : Nat) (t : TypeId) (r : Value)
    (hp : tmps.getD p undef = .pointer (some ⟨g, 0, none⟩)) (hg : Blk w g t #[r]) :
    (results fn tmps).run Tryz.prog w = .ok (.tuple #[r, tmps.getD u undef, tmps.getD v undef, tmps.getD x undef]) w := by
  have hp' : tmps[p]?.getD undef = .pointer (some ⟨g, 0, none⟩) := by simpa using hp
  have hc : w.cell? ⟨g, 0, none⟩ = some r := hg.cell 0
  rw [results_cell_tmp4 h]
  simp [hp', asAddr, loadVar, hc, go_sem]
/-- a row of numbers lies beside a box -/
theorem rd_beside {w w' : World} {B g k : Nat} {D A : Option Addr} {t : TypeId} {n c : Nat} {f : Nat → Int} (h : Rd w B D k (fun j => .int .i64 (f j))) (hg : Blk w g t #[.slice A n c]) (hk : ∀ p : Addr, p.block ≠ g → (w.cell? p).isSome = true → w'.cell? p = w.cell? p) (_hB : w'.heap.size = w.heap.size) : Rd w' B D k (fun j => .int .i64 (f j)) := fun hm => by
  obtain ⟨b, off, e, hb, hc⟩ := h hm
  refine ⟨b, off, e, hb, fun j hj => ?_⟩
  have h1 := hc j hj
  have hne : b ≠ g := by
    rintro rfl
    rw [hg.cell (off + j)] at h1
    generalize off + j = q at h1
    rcases q with _ | i
    · simp at h1
    · simp at h1
  rw [hk ⟨b, off + j, none⟩ hne (by rw [h1]; rfl)]
  exact h1
theorem putObj_cell {W : World} {D : Nat} {o o' : Obj} (h : W.heap[D]? = some o) (ho : o.isCells = false) (p : Addr) (hp : (W.cell? p).isSome = true) : (W.putObj D o').cell? p = W.cell? p := by
  have hne : p.block ≠ D := by
    rintro rfl
    simp only [World.cell?, h] at hp
    cases o <;> simp_all [Obj.isCells]
  simp only [World.cell?, World.putObj_heap_other hne]

set_option maxRecDepth 100000 in
set_option maxHeartbeats 4000000 in
theorem Settle_30 (A C K : Option Addr) (n c m d k kc B : Nat) (s : StkF) (p : PastF) (ix f : Nat → Nat) (w : World) (hn : n ≤ 256) (hk : k ≤ 600) (hB : B ≤ w.heap.size) (hr : Rd w B A (n * 4) s.cells) (hg : StGood n s) (hdp : ∀ i, i < n → s.dp i ≤ 65535) (hp : PastRd w B C m p) (hpg : PGood m p) (hri : Rises m p.bd) (hfit : Fits n m s p ix) (hkr : Rd w B K k (fun j => .int .i64 (f j))) (hf : ∀ j, j < k → f j ≤ 65535) :
    Calls Tryz.prog 30 #[.slice A n c, .slice C m d, .slice K k kc] w fun e w' => SetR n k s p ix e w' ∧ Below w.heap.size w w' := by
  have HR := Lib.hid hr
  have HP := Lib.hid hp
  have HG := Lib.hid hg
  have HPG := Lib.hid hpg
  have HRI := Lib.hid hri
  have HFIT := Lib.hid hfit
  have HKR := Lib.hid hkr
  have HF := Lib.hid hf
  have HDP := Lib.hid hdp
  clear hr hp hg hpg hri hfit hkr hf hdp
  refine (callsIn_wide (n := 3)).1 (callsIn_of_wp_marks Tryz.func30 rfl trivial (wpIn_wide.2 ?_))
  simp only [Tryz.ntmps30, List.size_toArray, List.length_cons, List.length_nil, Nat.reduceAdd, Nat.reduceSub, Array.replicate_succ, Array.replicate_zero, List.push_toArray, List.append_toArray, List.nil_append, List.cons_append]
  go_upto_region 1 with fail
  obtain ⟨w3, hw3⟩ : ∃ zz, zz = w.alloc (.cells #[.slice none 0 0] 36) := ⟨_, rfl⟩
  have HL3 : Hid (Blk w3 w.heap.size 36 #[.slice none 0 0]) := Lib.hid (hw3 ▸ Blk.new _ _ _)
  have HB3 : Hid (Below w.heap.size w w3) := Lib.hid (hw3 ▸ below_alloc _ _)
  rw [← hw3]
  clear hw3
  go_wp2_with fail
  refine (check_37 A C n c m d B s p w3 (by have := HB3.out.size; omega) (HR.out.below (HB3.out.mono hB)) HG.out (HP.out.below (HB3.out.mono hB)) HPG.out HRI.out).mono ?_
  rintro e w4 ⟨rfl, hb4⟩
  have HB4 := Lib.hid (HB3.out.trans (hb4.mono HB3.out.size))
  have HL4 := Lib.hid (HL3.out.below hb4 HL3.out.lt)
  clear hb4 HB3 HL3
  go_wp2_with fail
  refine (right_54 0 K k kc B (fun j => f j) w4 hk (by omega) (by have := HB4.out.size; omega) (HKR.out.below (HB4.out.mono hB)) (fun j hj => by have := HF.out j hj; omega)).mono ?_
  rintro e w5 ⟨rfl, hb5⟩
  have HB5 := Lib.hid (HB4.out.trans (hb5.mono HB4.out.size))
  have HL5 := Lib.hid (HL4.out.below hb5 HL4.out.lt)
  clear hb5 HB4 HL4
  go_upto_region 8 with fail
  obtain ⟨w6, hw6⟩ : ∃ zz, zz = w5.alloc (.cells #[.int .i64 0] 3) := ⟨_, rfl⟩
  have HT6 : Hid (Blk w6 w5.heap.size 3 #[.int .i64 0]) := Lib.hid (hw6 ▸ Blk.new _ _ _)
  have HL6 : Hid (Blk w6 w.heap.size 36 #[.slice none 0 0]) := Lib.hid (hw6 ▸ HL5.out.alloc _)
  have HB6 : Hid (Below w.heap.size w w6) := Lib.hid (hw6 ▸ HB5.out.alloc HB5.out.size _)
  have htb : w.heap.size < w5.heap.size := HL5.out.lt
  rw [← hw6]
  clear hw6 HL5 HB5
  generalize w5.heap.size = tb at *
  clear w5
  go_wp2_with fail
  refine (forfeits_39 _ _ _ _ _ _ _).mono ?_
  rintro e U ⟨rfl, bt, bd, hbU⟩
  have HBU := Lib.hid (HB6.out.trans (hbU.mono HB6.out.size))
  have HLU : Hid (Boxed U w.heap.size 36 (.slice none 0 0)) := Lib.hid (HL6.out.below hbU HL6.out.lt)
  have HTU := Lib.hid (HT6.out.below hbU HT6.out.lt)
  have HSEQ := Lib.hid (forf_seq 2 w6.heap.size (w6.heap.size + 1) w.heap.size B n c m d A C s p ix HG.out HPG.out HRI.out HFIT.out hB U (by have := HBU.out.size; omega) bt bd (HR.out.below (HBU.out.mono hB)) (HP.out.below (HBU.out.mono hB)))
  have hzt := bd.lt
  have hz6 := HT6.out.lt
  clear bt bd hbU HL6 HT6
  go_wp2_with fail
  refine (wpIn_wide (n := 3)).1 ?_
  have HV : Hid (∀ i, i < n → 0 ≤ ffV s p ix i ∧ ffV s p ix i ≤ 65535) := Lib.hid fun i hi => by
    have h1 := HG.out.2.1 i hi
    have h2 := HDP.out i hi
    have h3 := ffV_in s p ix i (by omega) (by omega)
    omega
  obtain ⟨i0, hif, hz0, hz1, hz2⟩ := info_parts info3
  refine wpIn_rangeFunc_M (F := Fence.wide) (n := 3) rfl (by omega) (gf := 56) (lb := #[.pointer (some ⟨w6.heap.size, 0, none⟩), .pointer (some ⟨w6.heap.size + 1, 0, none⟩)]) rfl trivial (enters_of Tryz.func56 (by kernel_rfl) rfl)
    HSEQ.out (fun h k => h.trans k) ?hKb (Below.refl _ _) (fun _ => rfl)
    (InS w.heap.size w.heap.size tb U.heap.size w) (InS.own (by omega) (by omega)) (InS.below (by omega)) ?h0
    (fun x a' W' => a' = { tmps := #[.slice A n c, .slice C m d, .slice K k kc, undef, undef, undef, .pointer (some ⟨w.heap.size, 0, none⟩), .slice none 0 0, .int .i64 0, .int .i64 0, .pointer (some ⟨tb, 0, none⟩), undef, .int .i64 x.2, .slice A n c, .slice C m d, .int .i64 0, .int .i64 0, .bool false, undef, .slice K k kc, .int .i64 0, .int .i64 0, .bool false, undef, .slice A n c, .slice C m d, .func (.func 56) #[] #[.pointer (some ⟨w6.heap.size, 0, none⟩), .pointer (some ⟨w6.heap.size + 1, 0, none⟩)], .int .i64 x.1, .int .i64 x.2, undef, undef, undef, undef, undef, undef, undef, undef, undef, undef, undef, undef, undef, undef, undef, undef, undef], defers := [] })
    (fun x a' s A B row hs hg hr => hs) ?assign ?body ?done
  case hKb =>
    intro W' l o o' hl ho hc _
    exact KpF.put (by omega) ho hc
  case h0 => exact ⟨⟨_, HLU.out, World.ownsRow_nil _ _ _ _, trivial⟩, HTU.out, HBU.out, Nat.le_refl _⟩
  case assign =>
    intro l pre x W' K hI hK
    dsimp only [fzv]
    gi_wp2
    exact hK _ _ ((KeepsOthers.refl _).from _) (KpF.refl _) hI rfl
  case body =>
    rintro l pre x a' W' hl _ hI rfl ⟨rest, hpre⟩
    obtain ⟨⟨v, hv, hown, _⟩, htW, hbW, hzW⟩ := hI
    have hpl : pre.length < n := by
      have h1 := fzL_len s p ix n
      rw [hpre, List.length_append, List.length_cons] at h1
      omega
    have hpe := fzL_take s p ix hpre
    have hpx : x = (pre.length, ffV s p ix pre.length) := by
      have h1 := fzL_at s p ix n pre.length hpl
      rw [hpre, List.getElem?_append_right (Nat.le_refl _), Nat.sub_self] at h1
      simpa using h1
    have hxv : 0 ≤ x.2 ∧ x.2 ≤ 65535 := by rw [hpx]; exact HV.out _ hpl
    have hsv : 0 ≤ sumF pre ∧ sumF pre ≤ 16776960 := by
      have h1 := sumF_in s p ix n HV.out pre.length (by omega)
      rw [← hpe] at h1
      omega
    obtain ⟨A1, c1, hv1⟩ := own_form hown
    subst hv1
    have HVB := Lib.hid hv
    have HO := Lib.hid hown
    have HTW := Lib.hid htW
    have HBW := Lib.hid hbW
    have cl : W'.cell? ⟨w.heap.size, 0, none⟩ = some (.slice A1 pre.length c1) := hv.cell
    clear hv hown hbW hpre hpe hpx htW
    have htU : tb < U.heap.size := HTU.out.lt
    have hmb : ∀ (w3 : World), (W'.alloc (.cells #[.int .i64 x.2] 3)).grownBy w3 (Value.slice A1 pre.length c1).ownBlock → Blk w3 tb 3 #[.int .i64 (sumF pre)] := fun w3 hg => (hg.block tb (by simp; omega) (fun e => by have := (HO.out.lt tb e.symm).1; omega)).trans (HTW.out.alloc _)
    have HMB := Lib.hid hmb
    clear hmb
    have hw1 : IntKind.i64.wrap (sumF pre + x.2) = sumF pre + x.2 := IntWalk.i64_in _ ⟨by omega, by omega⟩
    gi_wp2_with (gi_at_builtin; refine wpListIn_append_own_at _ rfl _ _ 36 rfl U.heap.size 3 i0 (.int .i64 0) 1 8 Tryz.underlying36 hif hz0 hz1 hz2 rfl (by decide) (.slice A1 pre.length c1) pre.length (payF pre) rfl (HO.out.alloc _) ⟨_, 0, none⟩ 1 1 [.int .i64 x.2] rfl rfl (cell_one_new _ _ _) (by simp [Value.oneCell']) (by unfold maxLen; omega) (by omega) (by simp; omega) ?_; intro vv w3 hown3 hgrow3 _ _; obtain ⟨A3, c3, hvv⟩ := own_form hown3; subst hvv; have HV3 : Hid (Boxed w3 w.heap.size 36 (.slice A1 pre.length c1)) := Lib.hid (boxed_push1 HVB.out HO.out hgrow3); have cl3 : w3.cell? ⟨w.heap.size, 0, none⟩ = some (.slice A1 pre.length c1) := HV3.out.cell; have fl3 := HV3.out.frozen; have HT3 := Lib.hid (HMB.out w3 hgrow3); have ct3 : w3.cell? ⟨tb, 0, none⟩ = some (.int .i64 (sumF pre)) := HT3.out.cell 0; have ft3 := HT3.out.frozen 0; have hne : tb ≠ w.heap.size := by omega)
    rename_i hgrow3' _ _
    exact InS.push _ rfl (by omega) htU HBW.out hzW HTW.out HO.out hgrow3 HV3.out hown3
  case done =>
    rintro D xs W' hD rfl hI hKD
    obtain ⟨⟨v, hv, hown, _⟩, htW, hbW, hzW⟩ := hI
    rw [fzL_len] at hown
    obtain ⟨A1, c1, hv1⟩ := own_form hown
    subst hv1
    have HVB := Lib.hid hv
    have HO := Lib.hid hown
    have HBW := Lib.hid hbW
    have HKD := Lib.hid hKD
    obtain ⟨T, hT⟩ : ∃ T : Nat, sumF (fzL s p ix n) = (T : Int) := ⟨(sumF (fzL s p ix n)).toNat, by have := sumF_in s p ix n HV.out n (Nat.le_refl _); omega⟩
    have hTb : T ≤ 16776960 := by have := sumF_in s p ix n HV.out n (Nat.le_refl _); omega
    have HTT := Lib.hid hT
    rw [hT] at htW
    have cl : W'.cell? ⟨w.heap.size, 0, none⟩ = some (.slice A1 n c1) := hv.cell
    have fl := hv.frozen
    have ct : W'.cell? ⟨tb, 0, none⟩ = some (.int .i64 T) := htW.cell 0
    clear hv hown hbW hKD hT htW
    go_wp2_with fail
    refine (Share_55 T k kc B K f W' hk (by omega) (by have := HBW.out.size; omega) (HKR.out.below (HBW.out.mono hB)) HF.out).mono ?_
    rintro e w7 ⟨⟨D2, c2, rest, sv, rfl, hrd, hsum⟩, hb7⟩
    have HRD := Lib.hid hrd
    have HSUM := Lib.hid hsum
    have hwl : w.heap.size < W'.heap.size := (Array.getElem?_eq_some_iff.1 HVB.out).1
    have HV7 : Hid (Boxed w7 w.heap.size 36 (.slice A1 n c1)) := Lib.hid ((hb7.block _ hwl).trans HVB.out)
    have HO7 := Lib.hid (own_below HO.out hb7)
    have HB7 : Hid (Below w.heap.size w w7) := Lib.hid (HBW.out.trans (hb7.mono HBW.out.size))
    have hDl : D < W'.heap.size := (Array.getElem?_eq_some_iff.1 HKD.out).1
    have HK7 : Hid (w7.heap[D]? = some (.deferred (some []))) := Lib.hid ((hb7.block D hDl).trans HKD.out)
    clear hb7 hrd hsum cl fl ct HVB HO HBW HKD hDl hwl hzW
    have cl7 : w7.cell? ⟨w.heap.size, 0, none⟩ = some (.slice A1 n c1) := HV7.out.cell
    have fl7 := HV7.out.frozen
    go_wp2_with fail
    have hDl : D < w7.heap.size := (Array.getElem?_eq_some_iff.1 HK7.out).1
    have hg1 := grownBy_setCell' w7 w.heap.size (.slice A1 n c1)
    have HV1 : Hid (Boxed (w7.setCell ⟨w.heap.size, 0, none⟩ (.slice A1 n c1)) w.heap.size 36 (.slice A1 n c1)) := Lib.hid (HV7.out.set _)
    have HB1 := Lib.hid (HB7.out.setCell (p := ⟨w.heap.size, 0, none⟩) (by simp) (.slice A1 n c1))
    have HO1 := Lib.hid (HO7.out.kept hg1 (.inr fun e => HV7.out.not_row (by decide) HO7.out e.symm))
    have HD1 : Hid ((w7.setCell ⟨w.heap.size, 0, none⟩ (.slice A1 n c1)).heap[D]? = some (.deferred (some []))) := Lib.hid ((hg1.block D hDl (fun e => by injection e with e; omega)).trans HK7.out)
    have HR1 : Hid (Rd (w7.setCell ⟨w.heap.size, 0, none⟩ (.slice A1 n c1)) w7.heap.size D2 k (fun j => .int .i64 (sv j))) := Lib.hid (rd_beside (f := fun j => (sv j : Int)) HRD.out HV7.out (fun p hp _ => World.cell?_setCell_far _ _ _ _ (fun e => hp e.symm)) (by simp))
    have hsz : (w7.setCell ⟨w.heap.size, 0, none⟩ (.slice A1 n c1)).heap.size = w7.heap.size := by simp
    clear hg1
    generalize w7.setCell ⟨w.heap.size, 0, none⟩ (.slice A1 n c1) = W1 at HV1 HB1 HO1 HD1 HR1 hsz ⊢
    have HO2 := ownsRow_putObj HO1.out (.deferred none) HD1.out rfl
    refine leaves_one (v := .tuple #[.slice A1 n c1, .slice D2 k c2, .int .i64 rest, .int .i64 0]) HD1.out ?_ ?_
    · refine results_slice36' (p := 6) (u := 7) (v := 8) (x := 9) rfl _ _ w.heap.size 36 (.slice A1 n c1) ?_ (blk_putObj HV1.out (show w.heap.size ≠ D by omega) _)
      rfl
    · refine ⟨⟨A1, D2, c1, c2, rest, sv, rfl, ?_, ?_, by rw [HTT.out]; exact_mod_cast HSUM.out⟩, below_putObj HB1.out (by omega) _⟩
      · have h9 := Rd.of_own (f := fun j => .int .i64 (ffV s p ix j)) HO2 (fun j hj => payF_at s p ix (by omega))
        rw [Nat.mul_one] at h9
        exact h9
      · have h9 : Rd (W1.putObj D (.deferred none)) w7.heap.size D2 k (fun j => .int .i64 (sv j)) := rd_beside (f := fun j => (sv j : Int)) HR1.out HV1.out (fun p _ hp => putObj_cell HD1.out rfl p hp) (by simp [World.putObj])
        exact h9.mono (by simp [World.putObj]; omega)
end Go.Proofs.YtonkjnkokikpgaaGreat
