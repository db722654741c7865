/- Contract of the law SaltJoined: it returns true for every input. -/
import Derived.Test.YthmebjbaigiehaaLawE
import Derived.Test.YthmebjbaigiehaaRound
namespace Go.Proofs.Ythmebjbaigiehaa
open Go.RowKit

section
variable {P : Program} {ops : Array Oper} {Q : Exit → Act → World → Prop} {md : Region.Mode} {A B : World → Prop} {sA sB : Nat}
/-- two operations may come up -/
theorem wpAnyT_two {T : World → Prop} {i j : Nat} {o o' : Oper} {fuel : Nat} {listed : Array Bool} {a : Act} {w : World} (hr : Region.ready md ops listed = [i, j]) (ho : ops[i]? = some o) (ho' : ops[j]? = some o')
    (hT : ∀ w, T w → Ob A B sA sB (listed.setIfInBounds i true) w) (hT' : ∀ w, T w → Ob A B sA sB (listed.setIfInBounds j true) w)
    (h : ∀ K' : Act → World → Prop, Shut (∀ a w, T w → (T w → wpAnyT P md ops Q A B sA sB fuel (listed.setIfInBounds i true) a w) → K' a w) → if Region.wanted o (yielded ops a.tmps) = true then Oper.wp P o a w K' Q else K' (a.put o.dst undef) w)
    (h' : ∀ K' : Act → World → Prop, Shut (∀ a w, T w → (T w → wpAnyT P md ops Q A B sA sB fuel (listed.setIfInBounds j true) a w) → K' a w) → if Region.wanted o' (yielded ops a.tmps) = true then Oper.wp P o' a w K' Q else K' (a.put o'.dst undef) w) :
    wpAnyT P md ops Q A B sA sB (fuel + 1) listed a w := by
  refine ⟨fun h0 => (by rw [hr] at h0; cases h0), fun q hq => ?_⟩
  rw [hr] at hq
  rcases (show q = i ∨ q = j by simpa using hq) with rfl | rfl
  · exact wpOp_step ho (fun K' hK => h K' (fun a w hS hW => hK a w ⟨hT w hS, hW hS⟩))
  · exact wpOp_step ho' (fun K' hK => h' K' (fun a w hS hW => hK a w ⟨hT' w hS, hW hS⟩))

/-- append, at a step of a region that draws -/
theorem step_append_at {w : World} {o : Oper} {a : Act} {K : Act → World → Prop} {E : Prop} (hgd : o.guard = none) (s x : Operand) (t : TypeId)
    (ho : o.op = .call { callee := .builtin .append, args := #[s, x], argTypes := #[t, t] })
    (base : Nat) (e : TypeId) (i : TypeInfo) (z : Value) (size bytes : Nat) (ht : P.underlying t = some (.slice e)) (hi : P.info? e = some i) (hz : i.zero = some z)
    (hsize : i.size = size) (hby : i.bytes = bytes) (hzs : z.cells.size = size) (hsz : 0 < size)
    (v : Value) (n : Nat) (xs : List Value) (hs : a.eval s = v) (hown : w.ownsRow base e size v n xs)
    (ad : Addr) (m c : Nat) (news : List Value) (hx : a.eval x = .slice (some ad) m c) (hl : news.length = m * size) (hnews : ∀ j u, news[j]? = some u → w.cell? (ad.add j) = some u) (h1 : ∀ u ∈ news, u.oneCell' = true)
    (h63 : n + m ≤ maxLen) (hbytes : (n + m) * bytes ≤ 140737488355328) (hbase : base ≤ w.heap.size)
    (h : ∀ v' w', w'.ownsRow base e size v' (n + m) (xs ++ news) → w.grownBy w' v.ownBlock → K (a.put o.dst v') w') :
    if Region.wanted o (yielded ops a.tmps) = true then Oper.wp P o a w K Q else E := by
  obtain ⟨v', w', hr, h2, h3, _, _⟩ := run_append_own_at (P := P) w base t o.type e i z size bytes ht hi hz hsize hby hzs hsz v n xs hown ad m c news hl hnews h1 h63 hbytes hbase
  have hw : Region.wanted o (yielded ops a.tmps) = true := by simp [Region.wanted, hgd]
  rw [if_pos hw]
  unfold Oper.wp execOp
  simp only [ho, resolve, invoke, builtin, Sem.run_bind, Sem.run_pure, Result.andThen_ok, List.map_toArray, List.map_cons, List.map_nil, hs, hx, hr]
  exact h v' w' h2 h3
end

theorem own_empty {W : World} {g base : Nat} (hg : Blk W g 3 #[]) (hb : base ≤ g) : W.ownsRow base 3 1 (.slice (some ⟨g, 0, none⟩) 0 0) 0 [] :=
  ⟨by simp, .inr ⟨g, 0, #[], rfl, hb, hg, Nat.le_refl _, by unfold maxLen; omega, by simp, by simp⟩⟩
theorem rowI_len (f : Nat → Int) (k : Nat) : (rowI f k).length = k * 1 := by simp [rowI]
theorem rowI_one (f : Nat → Int) (k : Nat) : ∀ u ∈ rowI f k, u.oneCell' = true := by
  intro u hu
  simp only [rowI, List.mem_map] at hu
  obtain ⟨j, _, rfl⟩ := hu
  rfl
theorem rowI_news {W : World} {b off k : Nat} {f : Nat → Int} (h : ∀ j, j < k → W.cell? ⟨b, off + j, none⟩ = some (.int .i64 (f j))) : ∀ j u, (rowI f k)[j]? = some u → W.cell? ((⟨b, off, none⟩ : Addr).add j) = some u := by
  intro j u hu
  obtain ⟨hj, rfl⟩ := List.getElem?_eq_some_iff.1 hu
  have hj' : j < k := by simpa [rowI] using hj
  rw [add_none, h j hj']
  simp [rowI]
theorem pair_news {W : World} {h : Nat} {x y : Int} (hh : Blk W h 3 #[.int .i64 x, .int .i64 y]) : ∀ j u, [Value.int .i64 x, Value.int .i64 y][j]? = some u → W.cell? ((⟨h, 0, none⟩ : Addr).add j) = some u := by
  intro j u hj
  rw [add_none, hh.cell, Nat.zero_add]
  match j, hj with
  | 0, hj => simpa using hj
  | 1, hj => simpa using hj
theorem below_grown {v W W' : World} {row : Option Nat} (hb : Below v.heap.size v W) (hg : W.grownBy W' row) (hr : ∀ q, row = some q → v.heap.size ≤ q) : Below v.heap.size v W' :=
  hb.grown hg hb.size hr
theorem blk_grown {W W' : World} {h g : Nat} {cs : Array Value} (hh : Blk W h 3 cs) (hg : W.grownBy W' (some g)) (hne : h ≠ g) : Blk W' h 3 cs :=
  (hg.block h hh.lt (by simpa using hne)).trans hh
theorem cut_row (f : Nat → Int) (k m : Nat) (x : Int) (hk : k < m) : ∀ j, j < (m + 1) * 1 → (rowI f k ++ [.int .i64 x, .int .i64 (f k - x)] ++ rowI (fun q => f (k + 1 + q)) (m - (k + 1)))[j]? = some (.int .i64 (cutP f k x j)) := by
  intro j hj
  have hl := rowI_len f k
  by_cases h1 : j < k
  · rw [List.append_assoc, List.getElem?_append_left (by omega), rowI_at f k j (by omega), cutP_lo h1]
  by_cases h2 : j < k + 2
  · rw [List.getElem?_append_left (by simp; omega), List.getElem?_append_right (by omega)]
    obtain rfl | rfl : j = k ∨ j = k + 1 := by omega
    · rw [cutP_at, hl]; simp
    · rw [cutP_at1, hl]; simp
  · rw [List.getElem?_append_right (by simp; omega)]
    obtain ⟨q, rfl⟩ : ∃ q, j = k + 2 + q := ⟨j - (k + 2), by omega⟩
    have e : k + 2 + q - (rowI f k ++ [Value.int .i64 x, .int .i64 (f k - x)]).length = q := by simp; omega
    rw [e, rowI_at _ _ _ (by omega), show k + 2 + q = (k + 1 + q) + 1 by omega, cutP_hi (by omega)]
set_option maxRecDepth 100000 in
set_option maxHeartbeats 20000000 in
theorem joined_8 (L S : Int) (A : Option Addr) (n c B : Nat) (P : Nat → Int) (at_ first : Int) (w : World) (hm : n ≤ c ∧ c ≤ 9223372036854775807) (hB : B ≤ w.heap.size) (hr : Rd w B A n fun k => .int .i64 (P k)) (hat : 0 ≤ at_ ∧ at_ ≤ 255) (hfirst : 0 ≤ first ∧ first ≤ 4294967295) :
    Calls Try.prog 8 #[.agg #[.int .i64 L, .int .i64 S], .slice A n c, .int .u8 at_, .int .u32 first] w fun e w' => e = .returned (.bool true) ∧ Below w.heap.size w w' := by
  have HR := Lib.hid hr
  clear hr
  obtain ⟨E, hE⟩ : ∃ E, E = splE L S n P := ⟨_, rfl⟩
  obtain ⟨m, hmm⟩ : ∃ m, m = if E = 0 then n else 0 := ⟨_, rfl⟩
  obtain ⟨Y, hY⟩ : ∃ Y, Y = splS L S P := ⟨_, rfl⟩
  have HX : Hid (∀ W, Rd W B A n (fun k => .int .i64 (P k)) → B ≤ W.heap.size → Calls Try.prog 16 #[.agg #[.int .i64 L, .int .i64 S], .slice A n c] W fun e w' => (∃ A' c', e = .returned (.tuple #[.slice A' (if splE L S n P = 0 then n else 0) c', .int .i64 (splE L S n P)]) ∧ RdP w' w'.heap.size A' (if splE L S n P = 0 then n else 0) P (splS L S P) ∧ (if splE L S n P = 0 then n else 0) ≤ c') ∧ Below W.heap.size W w') := Lib.hid fun W h1 h2 =>
    (Split_16c L S A n c B P W (by omega) h2 h1).mono fun e w' ⟨⟨A', n', c', he, hn, hr, hc⟩, hb⟩ => by subst hn; exact ⟨⟨A', c', he, hr, hc⟩, hb⟩
  have HP : Hid (E = 0 → ∀ k, k < n → 0 ≤ P k ∧ P k ≤ 1073741824) := Lib.hid fun h k hk => by rw [hE] at h; exact (splE_zero h).2.2.1 k hk
  have HX2 : Hid (E = 0 → n < 64 → ∀ k a, k < n → 0 ≤ a → a ≤ P k → ∀ W A2 c2, Rd W W.heap.size A2 (n + 1) (fun j => .int .i64 (cutP P k a j)) → Calls Try.prog 16 #[.agg #[.int .i64 L, .int .i64 S], .slice A2 (n + 1) c2] W fun e w' => (∃ A' c', e = .returned (.tuple #[.slice A' (n + 1) c', .int .i64 0]) ∧ RdP w' w'.heap.size A' (n + 1) (cutP P k a) (splS L S (cutP P k a)) ∧ n + 1 ≤ c') ∧ Below W.heap.size W w') := Lib.hid fun h h64 k a hk h0 ha W A2 c2 h1 => by
    rw [hE] at h
    have h3 := Split_16c L S A2 (n + 1) c2 _ (cutP P k a) W (by omega) (Nat.le_refl _) h1
    have h4 := cut_spl h h64 hk h0 ha
    rw [h4] at h3
    exact h3.mono fun e w' ⟨⟨A', n', c', he, hn, hr, hc⟩, hb⟩ => by
      rw [if_pos rfl] at hn
      subst hn
      exact ⟨⟨A', c', he, hr, hc⟩, hb⟩
  have HJ : Hid (∀ k a, (∀ j, j < k → splS L S (cutP P k a) j = Y j) ∧ (∀ d, splS L S (cutP P k a) (k + 2 + d) = Y (k + 1 + d)) ∧ splS L S (cutP P k a) k + splS L S (cutP P k a) (k + 1) = Y k) := Lib.hid fun k a => by
    rw [hY]
    exact ⟨fun j hj => cut_lo hj, fun d => cut_hi d, cut_two⟩
  have HYB : Hid (E = 0 → ∀ k, k < n → 0 ≤ Y k ∧ Y k ≤ 1073741824) := Lib.hid fun h k hk => by
    rw [hE] at h
    rw [hY]
    have h1 := splS_at h hk
    have h2 := (rt_iff.1 (splE_zero h).2.1).2.1
    omega
  rw [← hE, ← hmm, ← hY] at HX
  have HM := Lib.hid hmm
  clear hE hmm hY
  go_enter Try.func8, Try.ntmps8
  go_wp2_with fail
  obtain ⟨u0, hbx⟩ : ∃ zz, zz = w.alloc (.cells #[.int .i64 L, .int .i64 S] 24) := ⟨_, rfl⟩
  have NW : Blk u0 (w.heap.size) 24 #[.int .i64 L, .int .i64 S] := hbx ▸ ((Blk.new' rfl))
  have hb : Below w.heap.size w u0 := by rw [hbx]; (repeat (first | exact Below.refl _ _ | exact below_alloc _ _ | refine Below.alloc ?_ (by simp; omega) _ | refine Below.alloc ?_ (by simp) _))
  rw [← hbx]
  clear hbx
  have B1 := Lib.hid (show Below w.heap.size w u0 from hb)
  have hz1 := B1.out.size
  clear hb 
  have W1 := Lib.hid NW
  clear NW
  have hsW1 := W1.out.lt
  refine (sane_11 _).mono ?_
  rintro e v0 ⟨rfl, hb⟩
  have B2 := Lib.hid (B1.out.trans (hb.mono B1.out.size))
  have W2 := Lib.hid (W1.out.below hb W1.out.lt)
  have hz2 := B2.out.size
  clear hb B1 W1 hz1
  have hsW2 := W2.out.lt
  clear hsW1
  have cW0 : v0.cell? ⟨w.heap.size, 0, none⟩ = some (.int .i64 L) := W2.out.cell 0
  have cW1 : v0.cell? ⟨w.heap.size, 1, none⟩ = some (.int .i64 S) := W2.out.cell 1
  go_wp2_with fail
  refine (HX.out _ (HR.out.below (B2.out.mono hB)) (by omega)).mono ?_
  rintro e v1 ⟨⟨A1, c1, rfl, hr1, hc1⟩, hb⟩
  clear cW0 cW1
  have B3 := Lib.hid (B2.out.trans (hb.mono B2.out.size))
  have W3 := Lib.hid (W2.out.below hb W2.out.lt)
  have hz3 := B3.out.size
  clear hb B2 W2 hz2
  have hsW3 := W3.out.lt
  clear hsW2
  have K3 := Lib.hid hr1
  clear hr1
  by_cases hE : E = 0
  · obtain rfl : m = n := by rw [HM.out, if_pos hE]
    subst hE
    by_cases h0 : m = 0
    · subst h0
      go_wp2_with fail
      go_ret
      exact ⟨rfl, B3.out⟩
    by_cases h64 : 64 ≤ m
    · have h0' : ¬ (m : Int) = 0 := by omega
      have h64' : (64 : Int) ≤ m := by omega
      go_wp2_with fail
      go_ret
      exact ⟨rfl, B3.out⟩
    have h0' : ((m : Int) == 0) = false := by simp; omega
    have h64' : (m : Int) < 64 := by omega
    obtain ⟨k, hk⟩ : ∃ k : Nat, (k : Int) = at_ % (m : Int) := ⟨(at_ % (m : Int)).toNat, by have := Int.emod_nonneg at_ (show (m : Int) ≠ 0 by omega); omega⟩
    have hkm : k < m := by have := Int.emod_lt_of_pos at_ (show 0 < (m : Int) by omega); omega
    have hkm' : (k : Int) < m := by omega
    obtain ⟨p0, p1⟩ := HP.out (by first | rfl | trivial) k hkm
    obtain ⟨a, ha⟩ : ∃ a : Int, a = first % (P k + 1) := ⟨_, rfl⟩
    have a0 : 0 ≤ a := ha ▸ Int.emod_nonneg first (by omega)
    have a1 : a ≤ P k := by have := Int.emod_lt_of_pos first (show 0 < P k + 1 by omega); omega
    go_upto_region 7 with fail
    rw [← hk]
    clear hk
    obtain ⟨b, off, rfl, hbB, cp⟩ := (HR.out.below (B3.out.mono hB)) (by omega)
    have ck := cp k hkm
    have hw1 : IntKind.i64.wrap (P k + 1) = P k + 1 := IntWalk.i64_in _ ⟨by omega, by omega⟩
    have hpk : ¬ P k + 1 = 0 := by omega
    go_upto_region 8 with fail
    rw [← ha]
    clear ha

    have hkc : k ≤ c := by omega
    have hwa : IntKind.i64.wrap (P k - a) = P k - a := IntWalk.i64_in _ ⟨by omega, by omega⟩
    obtain ⟨i0, hi, hi0, hi1, hi2⟩ := info_parts info3
    have HCP : Hid (∀ W, Below v1.heap.size v1 W → ∀ j, j < m → W.cell? ⟨b, off + j, none⟩ = some (.int .i64 (P j))) := Lib.hid fun W h j hj => (h.cell (p := ⟨b, off + j, none⟩) (show b < v1.heap.size by omega)).trans (cp j hj)
    clear cp hw1 hpk
    go_cut [13] (fun s13 wc => ∃ A2 c2, s13 = .slice A2 (k + 2) c2 ∧ wc.ownsRow v1.heap.size 3 1 (.slice A2 (k + 2) c2) (k + 2) (rowI P k ++ [.int .i64 a, .int .i64 (P k - a)]) ∧ Below v1.heap.size v1 wc)
    case first =>
      have ck : v1.drew.cell? ⟨b, off + k, none⟩ = some (.int .i64 (P k)) := ck
      refine wp_region_tail (fun w' => Hid (Below v1.heap.size v1 w')) (fun w' => w'.cell? ⟨b, off + k, none⟩ = some (.int .i64 (P k))) 14 14 (by kernel_rfl) ⟨Lib.hid (Below.refl _ _).drew, ck⟩ fun hHeld => ?_

      refine wpAnyT_takeB (i := 1) (v := .slice (some ⟨b, off, none⟩) m c) rfl (by kernel_rfl) (by kernel_rfl) (by kernel_rfl) (by kernel_rfl) (by kernel_rfl) (by decide) (by decide) (fun _ _ _ h => h) (Or.inl ⟨by rfl, ?_⟩) (by assumption) ?_
      · intro w' hSw
        go_simp
      refine wpAnyT_takeB (i := 2) (v := .int .i64 k) rfl (by kernel_rfl) (by kernel_rfl) (by kernel_rfl) (by kernel_rfl) (by kernel_rfl) (by decide) (by decide) (fun _ _ _ h => h) (Or.inl ⟨by rfl, ?_⟩) (by assumption) ?_
      · intro w' hSw
        go_simp
      refine wpAnyT_takeB (i := 3) (v := .slice (some ⟨b, off, none⟩) k c) rfl (by kernel_rfl) (by kernel_rfl) (by kernel_rfl) (by kernel_rfl) (by kernel_rfl) (by decide) (by decide) (fun _ _ _ h => h) (Or.inl ⟨by rfl, ?_⟩) (by assumption) ?_
      · intro w' hSw
        go_simp
      refine wpAnyT_takeB (i := 5) (v := .int .i64 a) rfl (by kernel_rfl) (by kernel_rfl) (by kernel_rfl) (by kernel_rfl) (by kernel_rfl) (by decide) (by decide) (fun _ _ _ h => h) (Or.inl ⟨by rfl, ?_⟩) (by assumption) ?_
      · intro w' hSw
        go_simp
      refine wpAnyT_takeB (i := 6) (v := .slice (some ⟨b, off, none⟩) m c) rfl (by kernel_rfl) (by kernel_rfl) (by kernel_rfl) (by kernel_rfl) (by kernel_rfl) (by decide) (by decide) (fun _ _ _ h => h) (Or.inl ⟨by rfl, ?_⟩) (by assumption) ?_
      · intro w' hSw
        go_simp
      refine wpAnyT_takeB (i := 7) (v := .int .i64 k) rfl (by kernel_rfl) (by kernel_rfl) (by kernel_rfl) (by kernel_rfl) (by kernel_rfl) (by decide) (by decide) (fun _ _ _ h => h) (Or.inl ⟨by rfl, ?_⟩) (by assumption) ?_
      · intro w' hSw
        go_simp
      refine wpAnyT_takeB (i := 8) (v := .pointer (some ⟨b, off + k, none⟩)) rfl (by kernel_rfl) (by kernel_rfl) (by kernel_rfl) (by kernel_rfl) (by kernel_rfl) (by decide) (by decide) (fun _ _ _ h => h) (Or.inl ⟨by rfl, ?_⟩) (by assumption) ?_
      · intro w' hSw
        go_simp
      refine wpAnyT_takeB (i := 9) (v := .int .i64 (P k)) rfl (by kernel_rfl) (by kernel_rfl) (by kernel_rfl) (by kernel_rfl) (by kernel_rfl) (by decide) (by decide) (fun _ _ _ h => h) (Or.inl ⟨by rfl, ?_⟩) (by assumption) ?_
      · intro w' hSw
        go_simp
      refine wpAnyT_takeB (i := 10) (v := .int .i64 a) rfl (by kernel_rfl) (by kernel_rfl) (by kernel_rfl) (by kernel_rfl) (by kernel_rfl) (by decide) (by decide) (fun _ _ _ h => h) (Or.inl ⟨by rfl, ?_⟩) (by assumption) ?_
      · intro w' hSw
        go_simp
      refine wpAnyT_takeB (i := 11) (v := .int .i64 (P k - a)) rfl (by kernel_rfl) (by kernel_rfl) (by kernel_rfl) (by kernel_rfl) (by kernel_rfl) (by decide) (by decide) (fun _ _ _ h => h) (Or.inl ⟨by rfl, ?_⟩) (by assumption) ?_
      · intro w' hSw
        go_simp
      simp only [Act.put, List.setIfInBounds_toArray]
      clear hHeld
      have hB0 : Below v1.heap.size v1 v1.drew := (Below.refl _ _).drew
      generalize v1.drew = d at hB0 ck ⊢
      refine wpAnyT_two (i := 0) (j := 12) (by kernel_rfl) rfl rfl Ob.head Ob.head (fun K hK => ?_) (fun K hK => ?_)
      · go_simp
        obtain ⟨e1, hd⟩ : ∃ zz, zz = d.alloc (.cells #[] 3) := ⟨_, rfl⟩
        have hNg : Blk e1 d.heap.size 3 #[] := hd ▸ Blk.new _ _ _
        have hB1 : Below v1.heap.size v1 e1 := hd ▸ hB0.alloc hB0.size _
        have hy1 := hB0.size
        have hl1 := hNg.lt
        rw [← hd]
        clear hd
        refine hK.out _ _ ⟨Lib.hid hB1, HCP.out _ hB1 k hkm⟩ (fun _ => ?_)
        clear hK K
        refine wpAnyT_two (i := 4) (j := 12) (by kernel_rfl) rfl rfl Ob.head Ob.head (fun K hK => ?_) (fun K hK => ?_)
        · refine step_append_at rfl (.tmp 49) (.tmp 52) 32 rfl v1.heap.size 3 i0 (.int .i64 0) 1 8 Try.underlying32 hi hi0 hi1 hi2 rfl (by decide) (.slice (some ⟨d.heap.size, 0, none⟩) 0 0) 0 [] rfl (own_empty hNg (by omega)) ⟨b, off, none⟩ k _ (rowI P k) rfl (rowI_len _ _) (rowI_news (fun j hj => HCP.out _ hB1 j (by omega))) (rowI_one _ _) (by unfold maxLen; omega) (by omega) hB1.size ?_
          intro v' e2 hown hgrow
          rw [Nat.zero_add, List.nil_append] at hown
          have hB2 : Below v1.heap.size v1 e2 := below_grown hB1 hgrow (fun q e => by simp [Value.ownBlock] at e; omega)
          clear hNg hgrow
          refine hK.out _ _ ⟨Lib.hid hB2, HCP.out _ hB2 k hkm⟩ (fun _ => ?_)
          clear hK K
          refine wpAnyT_one (i := 12) (by kernel_rfl) rfl Ob.head (fun K hK => ?_)
          go_simp
          obtain ⟨e3, hd⟩ : ∃ zz, zz = e2.alloc (.cells #[.int .i64 a, .int .i64 (P k - a)] 3) := ⟨_, rfl⟩
          have hNh : Blk e3 e2.heap.size 3 #[.int .i64 a, .int .i64 (P k - a)] := hd ▸ Blk.new _ _ _
          have hB3 : Below v1.heap.size v1 e3 := hd ▸ hB2.alloc hB2.size _
          have hy3 := hB2.size
          have hl3 := hNh.lt
          have hown : e3.ownsRow v1.heap.size 3 1 v' k (rowI P k) := hd ▸ hown.alloc _
          rw [← hd]
          clear hd
          refine hK.out _ _ ⟨Lib.hid hB3, HCP.out _ hB3 k hkm⟩ (fun _ => ?_)
          clear hK K
          refine wpAnyT_one (i := 13) (by kernel_rfl) rfl Ob.head (fun K hK => ?_)
          refine step_append_at rfl (.tmp 53) (.tmp 61) 32 rfl v1.heap.size 3 i0 (.int .i64 0) 1 8 Try.underlying32 hi hi0 hi1 hi2 rfl (by decide) v' k (rowI P k) rfl hown ⟨e2.heap.size, 0, none⟩ 2 2 [.int .i64 a, .int .i64 (P k - a)] rfl rfl (pair_news hNh) (one_two _ _) (by unfold maxLen; omega) (by omega) hB3.size ?_
          intro v2 e4 hown2 hgrow
          have hB4 : Below v1.heap.size v1 e4 := below_grown hB3 hgrow (fun q e => (hown.lt q e).1)
          obtain ⟨A2, c2, hv2⟩ := own_form hown2
          subst hv2
          refine hK.out _ _ ⟨Lib.hid hB4, HCP.out _ hB4 k hkm⟩ (fun _ => ?_)
          clear hK K
          refine wpAnyT_one (i := 14) (by kernel_rfl) rfl (Ob.last (by kernel_rfl) (by kernel_rfl)) (fun K hK => ?_)
          go_simp
          refine hK.out _ _ trivial (fun _ => ?_)
          clear hK K
          refine wpAnyT_done (by kernel_rfl) ?_
          go_wp2_with fail
          go_meet
          case rel => exact ⟨_, _, rfl, hown2, hB4⟩
        · go_simp
          obtain ⟨e2, hd⟩ : ∃ zz, zz = e1.alloc (.cells #[.int .i64 a, .int .i64 (P k - a)] 3) := ⟨_, rfl⟩
          have hNh : Blk e2 e1.heap.size 3 #[.int .i64 a, .int .i64 (P k - a)] := hd ▸ Blk.new _ _ _
          have hB2 : Below v1.heap.size v1 e2 := hd ▸ hB1.alloc hB1.size _
          have hy2 := hB1.size
          have hl2 := hNh.lt
          have hNg : Blk e2 d.heap.size 3 #[] := hd ▸ hNg.alloc _
          rw [← hd]
          clear hd
          refine hK.out _ _ ⟨Lib.hid hB2, HCP.out _ hB2 k hkm⟩ (fun _ => ?_)
          clear hK K
          refine wpAnyT_one (i := 4) (by kernel_rfl) rfl Ob.head (fun K hK => ?_)
          refine step_append_at rfl (.tmp 49) (.tmp 52) 32 rfl v1.heap.size 3 i0 (.int .i64 0) 1 8 Try.underlying32 hi hi0 hi1 hi2 rfl (by decide) (.slice (some ⟨d.heap.size, 0, none⟩) 0 0) 0 [] rfl (own_empty hNg (by omega)) ⟨b, off, none⟩ k _ (rowI P k) rfl (rowI_len _ _) (rowI_news (fun j hj => HCP.out _ hB2 j (by omega))) (rowI_one _ _) (by unfold maxLen; omega) (by omega) hB2.size ?_
          intro v' e3 hown hgrow
          rw [Nat.zero_add, List.nil_append] at hown
          have hB3 : Below v1.heap.size v1 e3 := below_grown hB2 hgrow (fun q e => by simp [Value.ownBlock] at e; omega)
          have hNh := blk_grown hNh hgrow (by simp; omega)
          clear hNg hgrow
          refine hK.out _ _ ⟨Lib.hid hB3, HCP.out _ hB3 k hkm⟩ (fun _ => ?_)
          clear hK K
          refine wpAnyT_one (i := 13) (by kernel_rfl) rfl Ob.head (fun K hK => ?_)
          refine step_append_at rfl (.tmp 53) (.tmp 61) 32 rfl v1.heap.size 3 i0 (.int .i64 0) 1 8 Try.underlying32 hi hi0 hi1 hi2 rfl (by decide) v' k (rowI P k) rfl hown ⟨e1.heap.size, 0, none⟩ 2 2 [.int .i64 a, .int .i64 (P k - a)] rfl rfl (pair_news hNh) (one_two _ _) (by unfold maxLen; omega) (by omega) hB3.size ?_
          intro v2 e4 hown2 hgrow
          have hB4 : Below v1.heap.size v1 e4 := below_grown hB3 hgrow (fun q e => (hown.lt q e).1)
          obtain ⟨A2, c2, hv2⟩ := own_form hown2
          subst hv2
          refine hK.out _ _ ⟨Lib.hid hB4, HCP.out _ hB4 k hkm⟩ (fun _ => ?_)
          clear hK K
          refine wpAnyT_one (i := 14) (by kernel_rfl) rfl (Ob.last (by kernel_rfl) (by kernel_rfl)) (fun K hK => ?_)
          go_simp
          refine hK.out _ _ trivial (fun _ => ?_)
          clear hK K
          refine wpAnyT_done (by kernel_rfl) ?_
          go_wp2_with fail
          go_meet
          case rel => exact ⟨_, _, rfl, hown2, hB4⟩
      · go_simp
        obtain ⟨e1, hd⟩ : ∃ zz, zz = d.alloc (.cells #[.int .i64 a, .int .i64 (P k - a)] 3) := ⟨_, rfl⟩
        have hNh : Blk e1 d.heap.size 3 #[.int .i64 a, .int .i64 (P k - a)] := hd ▸ Blk.new _ _ _
        have hB1 : Below v1.heap.size v1 e1 := hd ▸ hB0.alloc hB0.size _
        have hy1 := hB0.size
        have hl1 := hNh.lt
        rw [← hd]
        clear hd
        refine hK.out _ _ ⟨Lib.hid hB1, HCP.out _ hB1 k hkm⟩ (fun _ => ?_)
        clear hK K
        refine wpAnyT_one (i := 0) (by kernel_rfl) rfl Ob.head (fun K hK => ?_)
        go_simp
        obtain ⟨e2, hd⟩ : ∃ zz, zz = e1.alloc (.cells #[] 3) := ⟨_, rfl⟩
        have hNg : Blk e2 e1.heap.size 3 #[] := hd ▸ Blk.new _ _ _
        have hB2 : Below v1.heap.size v1 e2 := hd ▸ hB1.alloc hB1.size _
        have hy2 := hB1.size
        have hl2 := hNg.lt
        have hNh : Blk e2 d.heap.size 3 #[.int .i64 a, .int .i64 (P k - a)] := hd ▸ hNh.alloc _
        rw [← hd]
        clear hd
        refine hK.out _ _ ⟨Lib.hid hB2, HCP.out _ hB2 k hkm⟩ (fun _ => ?_)
        clear hK K
        refine wpAnyT_one (i := 4) (by kernel_rfl) rfl Ob.head (fun K hK => ?_)
        refine step_append_at rfl (.tmp 49) (.tmp 52) 32 rfl v1.heap.size 3 i0 (.int .i64 0) 1 8 Try.underlying32 hi hi0 hi1 hi2 rfl (by decide) (.slice (some ⟨e1.heap.size, 0, none⟩) 0 0) 0 [] rfl (own_empty hNg (by omega)) ⟨b, off, none⟩ k _ (rowI P k) rfl (rowI_len _ _) (rowI_news (fun j hj => HCP.out _ hB2 j (by omega))) (rowI_one _ _) (by unfold maxLen; omega) (by omega) hB2.size ?_
        intro v' e3 hown hgrow
        rw [Nat.zero_add, List.nil_append] at hown
        have hB3 : Below v1.heap.size v1 e3 := below_grown hB2 hgrow (fun q e => by simp [Value.ownBlock] at e; omega)
        have hNh := blk_grown hNh hgrow (by simp; omega)
        clear hNg hgrow
        refine hK.out _ _ ⟨Lib.hid hB3, HCP.out _ hB3 k hkm⟩ (fun _ => ?_)
        clear hK K
        refine wpAnyT_one (i := 13) (by kernel_rfl) rfl Ob.head (fun K hK => ?_)
        refine step_append_at rfl (.tmp 53) (.tmp 61) 32 rfl v1.heap.size 3 i0 (.int .i64 0) 1 8 Try.underlying32 hi hi0 hi1 hi2 rfl (by decide) v' k (rowI P k) rfl hown ⟨d.heap.size, 0, none⟩ 2 2 [.int .i64 a, .int .i64 (P k - a)] rfl rfl (pair_news hNh) (one_two _ _) (by unfold maxLen; omega) (by omega) hB3.size ?_
        intro v2 e4 hown2 hgrow
        have hB4 : Below v1.heap.size v1 e4 := below_grown hB3 hgrow (fun q e => (hown.lt q e).1)
        obtain ⟨A2, c2, hv2⟩ := own_form hown2
        subst hv2
        refine hK.out _ _ ⟨Lib.hid hB4, HCP.out _ hB4 k hkm⟩ (fun _ => ?_)
        clear hK K
        refine wpAnyT_one (i := 14) (by kernel_rfl) rfl (Ob.last (by kernel_rfl) (by kernel_rfl)) (fun K hK => ?_)
        go_simp
        refine hK.out _ _ trivial (fun _ => ?_)
        clear hK K
        refine wpAnyT_done (by kernel_rfl) ?_
        go_wp2_with fail
        go_meet
        case rel => exact ⟨_, _, rfl, hown2, hB4⟩
    case rest =>
      obtain ⟨A2, c2, rfl, hown, hb⟩ := hcut
      have HOW := Lib.hid hown
      have hc2 := own_cap hown
      have HBC := Lib.hid hb
      clear hown ck hb
      have hzd := HBC.out.size
      have hwk : IntKind.i64.wrap ((k : Int) + 1) = (k : Int) + 1 := IntWalk.i64_in _ ⟨by omega, by omega⟩
      have elen : k + 2 + (m - (k + 1)) = m + 1 := by omega
      go_upto_region 9 with fail
      go_cut [13] (fun s13 wd => ∃ A3 c3, s13 = .slice A3 (m + 1) c3 ∧ Rd wd wd.heap.size A3 (m + 1) (fun j => .int .i64 (cutP P k a j)) ∧ Below v1.heap.size v1 wd)
      case first =>
        by_cases hck : c = k + 1
        · have hN1 : ∀ j u, (rowI (fun q => P (k + 1 + q)) (m - (k + 1)))[j]? = some u → wc.cell? ((⟨b, off, none⟩ : Addr).add j) = some u := by
            rw [show m - (k + 1) = 0 by omega]
            intro j u hj
            simp [rowI] at hj
          have hck1 : (c = k + 1) = True := eq_true hck
          clear hck
          go_wp2_with (at_builtin; refine wpList_append_own_at _ rfl _ _ 32 rfl v1.heap.size 3 i0 (.int .i64 0) 1 8 Try.underlying32 hi hi0 hi1 hi2 rfl (by decide) (.slice A2 (k + 2) c2) (k + 2) _ rfl HOW.out ⟨b, off, none⟩ (m - (k + 1)) _ (rowI (fun q => P (k + 1 + q)) (m - (k + 1))) rfl (rowI_len _ _) hN1 (rowI_one _ _) (by unfold maxLen; omega) (by omega) hzd ?_; intro vv w8 hown8 hgrow8 _ _; obtain ⟨A3, c3, hvv⟩ := own_form hown8; subst hvv)
          go_meet
          case rel =>
            rw [elen] at hown8
            exact ⟨A3, c3, by first | rfl | rw [elen], by have := Rd.of_own hown8 (cut_row P k m a hkm); rwa [Nat.mul_one] at this, below_grown HBC.out hgrow8 (fun q e => (HOW.out.lt q e).1)⟩
        · go_wp2_with (at_builtin; refine wpList_append_own_at _ rfl _ _ 32 rfl v1.heap.size 3 i0 (.int .i64 0) 1 8 Try.underlying32 hi hi0 hi1 hi2 rfl (by decide) (.slice A2 (k + 2) c2) (k + 2) _ rfl HOW.out ⟨b, off + (k + 1), none⟩ (m - (k + 1)) _ (rowI (fun q => P (k + 1 + q)) (m - (k + 1))) rfl (rowI_len _ _) (rowI_news (fun j hj => by rw [Nat.add_assoc]; exact HCP.out _ HBC.out _ (by omega))) (rowI_one _ _) (by unfold maxLen; omega) (by omega) hzd ?_; intro vv w8 hown8 hgrow8 _ _; obtain ⟨A3, c3, hvv⟩ := own_form hown8; subst hvv)
          go_meet
          case rel =>
            rw [elen] at hown8
            exact ⟨A3, c3, by first | rfl | rw [elen], by have := Rd.of_own hown8 (cut_row P k m a hkm); rwa [Nat.mul_one] at this, below_grown HBC.out hgrow8 (fun q e => (HOW.out.lt q e).1)⟩
      case rest =>
        clear HOW HBC hc2 hzd
        obtain ⟨A3, c3, rfl, hrow, hb⟩ := hcut
        have HROW := Lib.hid hrow
        clear hrow
        have B4 := Lib.hid (B3.out.trans (hb.mono B3.out.size))
        have W4 := Lib.hid (W3.out.below hb W3.out.lt)
        have K4 := Lib.hid (rd_step K3.out hb)
        have hz4 := B4.out.size
        clear hb B3 W3 K3 hz3
        have hsW4 := W4.out.lt
        clear hsW3
        have cW0 : wc.cell? ⟨w.heap.size, 0, none⟩ = some (.int .i64 L) := W4.out.cell 0
        have cW1 : wc.cell? ⟨w.heap.size, 1, none⟩ = some (.int .i64 S) := W4.out.cell 1
        go_wp2_with fail
        refine (HX2.out (by first | rfl | trivial) (by omega) k a hkm a0 a1 _ A3 c3 HROW.out).mono ?_
        rintro e v2 ⟨⟨A4, c4, rfl, hr4, hc4⟩, hb⟩
        clear cW0 cW1
        have B5 := Lib.hid (B4.out.trans (hb.mono B4.out.size))
        have W5 := Lib.hid (W4.out.below hb W4.out.lt)
        have K5 := Lib.hid (rd_step K4.out hb)
        have hz5 := B5.out.size
        clear hb B4 W4 K4 hz4
        have hsW5 := W5.out.lt
        clear hsW4
        have M5 := Lib.hid hr4
        clear hr4
        obtain ⟨j1, j2, j3⟩ := HJ.out k a
        generalize splS L S (cutP P k a) = Z at M5 j1 j2 j3
        obtain ⟨y0, y1⟩ := HYB.out (by first | rfl | trivial) k hkm
        obtain ⟨b4, o4, rfl, hb4, g0, g1⟩ := RdP.at_ M5.out (show k < m + 1 by omega)
        obtain ⟨g2, g3⟩ := RdP.here M5.out (show k + 1 < m + 1 by omega)
        obtain ⟨b1, o1, rfl, hb1, g4, g5⟩ := RdP.at_ K5.out hkm
        rw [cutP_at] at g0
        rw [cutP_at1] at g2
        have HS1 : Hid (∀ q, Calls Try.prog 18 #[.slice (some ⟨b4, o4, none⟩) k c4, .slice (some ⟨b1, o1, none⟩) k c1] (v2.drewN q) fun e w' => e = .returned (.bool true) ∧ ∃ r, w' = v2.drewN r) := Lib.hid fun q => by
          have h1 : RdP (v2.drewN q) v2.heap.size (some ⟨b4, o4, none⟩) k P Y := Rd.congr (Rd.drewN (rd_first M5.out (by omega)) q) (fun j hj => by
            unfold ptc
            rw [cutP_lo (by omega), j1 _ (by omega)])
          have h2 : RdP (v2.drewN q) v2.heap.size (some ⟨b1, o1, none⟩) k P Y := Rd.drewN (rd_first K5.out (by omega)) q
          exact (Same_18 _ _ k c4 c1 _ P Y _ (by omega) h1 h2).mono fun e w' ⟨he, r, hw⟩ => ⟨he, q + r, by rw [hw, World.drewN_drewN]⟩
        have HS2 : Hid (∀ (q : Nat) (X4 X1 : Option Addr) (C4 C1 n4 n1 : Nat), n4 = m - (k + 1) → n1 = m - (k + 1) → (m = k + 1 ∨ X4 = some ⟨b4, o4 + (k + 2) * 2, none⟩) → (m = k + 1 ∨ X1 = some ⟨b1, o1 + (k + 1) * 2, none⟩) →
            Calls Try.prog 18 #[.slice X4 n4 C4, .slice X1 n1 C1] (v2.drewN q) fun e w' => e = .returned (.bool true) ∧ ∃ r, w' = v2.drewN r) := Lib.hid fun q X4 X1 C4 C1 n4 n1 e4 e1 h4 h1 => by
          subst e4
          subst e1
          have h1 : RdP (v2.drewN q) v2.heap.size X4 (m - (k + 1)) (fun q => P (k + 1 + q)) (fun q => Y (k + 1 + q)) ∧ RdP (v2.drewN q) v2.heap.size X1 (m - (k + 1)) (fun q => P (k + 1 + q)) (fun q => Y (k + 1 + q)) := by
            by_cases hm1 : m = k + 1
            · rw [hm1, Nat.sub_self]; exact ⟨Rd.nil, Rd.nil⟩
            · obtain rfl := h4.resolve_left hm1
              obtain rfl := h1.resolve_left hm1
              have z1 := rd_rest M5.out (show k + 2 ≤ m + 1 by omega)
              have z2 := rd_rest K5.out (show k + 1 ≤ m by omega)
              rw [show m + 1 - (k + 2) = m - (k + 1) by omega] at z1
              simp only [Option.map_some, add_none] at z1 z2
              refine ⟨Rd.congr (Rd.drewN z1 q) (fun j hj => ?_), Rd.drewN z2 q⟩
              unfold ptc
              simp only []
              rw [j2, show k + 2 + j / 2 = k + 1 + j / 2 + 1 by omega, cutP_hi (by omega)]
          exact (Same_18 _ _ (m - (k + 1)) C4 C1 _ _ _ _ (by omega) h1.1 h1.2).mono fun e w' ⟨he, r, hw⟩ => ⟨he, q + r, by rw [hw, World.drewN_drewN]⟩
        obtain ⟨y, hy⟩ : ∃ y, y = Y k := ⟨_, rfl⟩
        rw [← hy] at g5 j3 y0 y1
        obtain ⟨pk, hpk⟩ : ∃ pk, pk = P k := ⟨_, rfl⟩
        rw [← hpk] at g4 g2 p0 p1 a1
        obtain ⟨qk, hqk⟩ : ∃ qk, qk = pk - a := ⟨_, rfl⟩
        rw [← hqk] at g2
        have hz1 : IntKind.i64.wrap (Z k + Z (k + 1)) = y := by rw [j3]; exact IntWalk.i64_in _ ⟨by omega, by omega⟩
        have hz2 : IntKind.i64.wrap (a + qk) = pk := by rw [show a + qk = pk by omega]; exact IntWalk.i64_in _ ⟨by omega, by omega⟩
        have hz3 : IntKind.i64.wrap ((k : Int) + 2) = (k : Int) + 2 := IntWalk.i64_in _ ⟨by omega, by omega⟩
        have hwk : IntKind.i64.wrap ((k : Int) + 1) = (k : Int) + 1 := IntWalk.i64_in _ ⟨by omega, by omega⟩
        have hkc4 : k ≤ c4 := by omega
        have hkc1 : k ≤ c1 := by omega
        have hkm1 : (k : Int) + 1 < (m : Int) + 1 := by omega
        have hwm : IntKind.i64.wrap ((m : Int) + 1) = (m : Int) + 1 := IntWalk.i64_in _ ⟨by omega, by omega⟩
        clear hy hpk hqk j1 j2 j3 HROW HX2 HJ HYB HP
        have HX4 : ∃ (X4 : Option Addr) (C4 : Nat), (m = k + 1 ∨ X4 = some ⟨b4, o4 + (k + 2) * 2, none⟩) ∧ ((c4 = k + 2 ∧ X4 = some ⟨b4, o4, none⟩ ∧ C4 = 0) ∨ (¬ c4 = k + 2 ∧ X4 = some ⟨b4, o4 + (k + 2) * 2, none⟩ ∧ C4 = c4 - (k + 2))) := by
          by_cases h : c4 = k + 2
          · exact ⟨_, _, .inl (by omega), .inl ⟨h, rfl, rfl⟩⟩
          · exact ⟨_, _, .inr rfl, .inr ⟨h, rfl, rfl⟩⟩
        have HX1 : ∃ (X1 : Option Addr) (C1 : Nat), (m = k + 1 ∨ X1 = some ⟨b1, o1 + (k + 1) * 2, none⟩) ∧ ((c1 = k + 1 ∧ X1 = some ⟨b1, o1, none⟩ ∧ C1 = 0) ∨ (¬ c1 = k + 1 ∧ X1 = some ⟨b1, o1 + (k + 1) * 2, none⟩ ∧ C1 = c1 - (k + 1))) := by
          by_cases h : c1 = k + 1
          · exact ⟨_, _, .inl (by omega), .inl ⟨h, rfl, rfl⟩⟩
          · exact ⟨_, _, .inr rfl, .inr ⟨h, rfl, rfl⟩⟩
        obtain ⟨X4, C4, hx4, hv4⟩ := HX4
        obtain ⟨X1, C1, hx1, hv1⟩ := HX1
        have HV4 := Lib.hid hv4
        have HV1 := Lib.hid hv1
        have HT1 : Hid (∀ W, Hid (∃ q, W = v2.drewN q) → Calls Try.prog 18 #[.slice (some ⟨b4, o4, none⟩) k c4, .slice (some ⟨b1, o1, none⟩) k c1] W fun e w' => e = .returned (.bool true) ∧ Hid (∃ q, w' = v2.drewN q) ∧ w'.cell? ⟨b4, o4 + k * 2, none⟩ = some (.int .i64 a) ∧ w'.cell? ⟨b4, o4 + k * 2 + 1, none⟩ = some (.int .i64 (Z k)) ∧ w'.cell? ⟨b4, o4 + (k + 1) * 2, none⟩ = some (.int .i64 qk) ∧ w'.cell? ⟨b4, o4 + (k + 1) * 2 + 1, none⟩ = some (.int .i64 (Z (k + 1))) ∧ w'.cell? ⟨b1, o1 + k * 2, none⟩ = some (.int .i64 pk) ∧ w'.cell? ⟨b1, o1 + k * 2 + 1, none⟩ = some (.int .i64 y)) := Lib.hid fun W hW => by
          obtain ⟨q, rfl⟩ := hW.out
          exact (HS1.out q).mono fun e w' ⟨he, r, hw⟩ => by subst hw; exact ⟨he, Lib.hid ⟨r, rfl⟩, g0, g1, g2, g3, g4, g5⟩
        have HT2 : Hid (∀ W, Hid (∃ q, W = v2.drewN q) → Calls Try.prog 18 #[.slice X4 (m - (k + 1)) C4, .slice X1 (m - (k + 1)) C1] W fun e w' => e = .returned (.bool true) ∧ Hid (∃ q, w' = v2.drewN q) ∧ w'.cell? ⟨b4, o4 + k * 2, none⟩ = some (.int .i64 a) ∧ w'.cell? ⟨b4, o4 + k * 2 + 1, none⟩ = some (.int .i64 (Z k)) ∧ w'.cell? ⟨b4, o4 + (k + 1) * 2, none⟩ = some (.int .i64 qk) ∧ w'.cell? ⟨b4, o4 + (k + 1) * 2 + 1, none⟩ = some (.int .i64 (Z (k + 1))) ∧ w'.cell? ⟨b1, o1 + k * 2, none⟩ = some (.int .i64 pk) ∧ w'.cell? ⟨b1, o1 + k * 2 + 1, none⟩ = some (.int .i64 y)) := Lib.hid fun W hW => by
          obtain ⟨q, rfl⟩ := hW.out
          exact (HS2.out q X4 X1 C4 C1 _ _ rfl rfl hx4 hx1).mono fun e w' ⟨he, r, hw⟩ => by subst hw; exact ⟨he, Lib.hid ⟨r, rfl⟩, g0, g1, g2, g3, g4, g5⟩
        clear HS1 HS2 hx4 hx1 hv4 hv1
        have elen2 : m + 1 - (k + 2) = m - (k + 1) := by omega
        have hk2m : (k : Int) + 2 ≤ (m : Int) + 1 := by omega
        have hk1m : (k : Int) + 1 ≤ m := by omega
        have hk2 : k + 2 ≤ m + 1 := by omega
        have hk1 : k + 1 ≤ m := by omega
        have hk20 : (0 : Int) ≤ (k : Int) + 2 := by omega
        have hkm2 : (k : Int) < (m : Int) + 1 := by omega
        have hkm3 : ¬ (m : Int) + 1 ≤ (k : Int) := by omega
        have hk10 : ¬ (k : Int) + 1 < 0 := by omega
        have hk11 : (0 : Int) ≤ (k : Int) + 1 := by omega
        have hk2t : ((k : Int) + 2).toNat = k + 2 := by omega
        go_upto_region 13 with fail
        have hHeld : Hid (∃ q, v2.drew = v2.drewN q) ∧ v2.drew.cell? ⟨b4, o4 + k * 2, none⟩ = some (.int .i64 a) ∧ v2.drew.cell? ⟨b4, o4 + k * 2 + 1, none⟩ = some (.int .i64 (Z k)) ∧ v2.drew.cell? ⟨b4, o4 + (k + 1) * 2, none⟩ = some (.int .i64 qk) ∧ v2.drew.cell? ⟨b4, o4 + (k + 1) * 2 + 1, none⟩ = some (.int .i64 (Z (k + 1))) ∧ v2.drew.cell? ⟨b1, o1 + k * 2, none⟩ = some (.int .i64 pk) ∧ v2.drew.cell? ⟨b1, o1 + k * 2 + 1, none⟩ = some (.int .i64 y) := ⟨Lib.hid ⟨1, rfl⟩, g0, g1, g2, g3, g4, g5⟩
        refine wp_region_tail (fun _ => True) (fun w' => Hid (∃ q, w' = v2.drewN q) ∧ w'.cell? ⟨b4, o4 + k * 2, none⟩ = some (.int .i64 a) ∧ w'.cell? ⟨b4, o4 + k * 2 + 1, none⟩ = some (.int .i64 (Z k)) ∧ w'.cell? ⟨b4, o4 + (k + 1) * 2, none⟩ = some (.int .i64 qk) ∧ w'.cell? ⟨b4, o4 + (k + 1) * 2 + 1, none⟩ = some (.int .i64 (Z (k + 1))) ∧ w'.cell? ⟨b1, o1 + k * 2, none⟩ = some (.int .i64 pk) ∧ w'.cell? ⟨b1, o1 + k * 2 + 1, none⟩ = some (.int .i64 y)) 58 58 (by kernel_rfl) ⟨trivial, hHeld⟩ ?_
        clear hHeld g0 g1 g2 g3 g4 g5
        generalize v2.drew = d
        intro hHeld
        refine wpAnyT_takeB (i := 0) (v := .slice (some ⟨b4, o4, none⟩) (m + 1) c4) rfl (by kernel_rfl) (by kernel_rfl) (by kernel_rfl) (by kernel_rfl) (by kernel_rfl) (by decide) (by decide) (fun _ _ _ h => h) (Or.inl ⟨by kernel_rfl, ?_⟩) hHeld ?_
        · intro w' hSw
          go_simp
        refine wpAnyT_takeB (i := 1) (v := .int .i64 k) rfl (by kernel_rfl) (by kernel_rfl) (by kernel_rfl) (by kernel_rfl) (by kernel_rfl) (by decide) (by decide) (fun _ _ _ h => h) (Or.inl ⟨by kernel_rfl, ?_⟩) hHeld ?_
        · intro w' hSw
          go_simp
        refine wpAnyT_takeB (i := 2) (v := .slice (some ⟨b4, o4, none⟩) k c4) rfl (by kernel_rfl) (by kernel_rfl) (by kernel_rfl) (by kernel_rfl) (by kernel_rfl) (by decide) (by decide) (fun _ _ _ h => h) (Or.inl ⟨by kernel_rfl, ?_⟩) hHeld ?_
        · intro w' hSw
          go_simp
        refine wpAnyT_takeB (i := 3) (v := .slice (some ⟨b1, o1, none⟩) m c1) rfl (by kernel_rfl) (by kernel_rfl) (by kernel_rfl) (by kernel_rfl) (by kernel_rfl) (by decide) (by decide) (fun _ _ _ h => h) (Or.inl ⟨by kernel_rfl, ?_⟩) hHeld ?_
        · intro w' hSw
          go_simp
        refine wpAnyT_takeB (i := 4) (v := .int .i64 k) rfl (by kernel_rfl) (by kernel_rfl) (by kernel_rfl) (by kernel_rfl) (by kernel_rfl) (by decide) (by decide) (fun _ _ _ h => h) (Or.inl ⟨by kernel_rfl, ?_⟩) hHeld ?_
        · intro w' hSw
          go_simp
        refine wpAnyT_takeB (i := 5) (v := .slice (some ⟨b1, o1, none⟩) k c1) rfl (by kernel_rfl) (by kernel_rfl) (by kernel_rfl) (by kernel_rfl) (by kernel_rfl) (by decide) (by decide) (fun _ _ _ h => h) (Or.inl ⟨by kernel_rfl, ?_⟩) hHeld ?_
        · intro w' hSw
          go_simp
        simp only [Act.put, List.setIfInBounds_toArray]
        refine wpAnyT_one (i := 6) (by kernel_rfl) rfl Ob.head (fun K hK => ?_)
        go_simp
        refine (HT1.out _ hHeld.2.1).mono ?_
        rintro e w' ⟨rfl, hS⟩
        refine hK.out _ _ ⟨trivial, hS⟩ (fun hHeld => ?_)
        clear hK K
        refine wpAnyT_takeB (i := 7) (v := .bool true) rfl (by kernel_rfl) (by kernel_rfl) (by kernel_rfl) (by kernel_rfl) (by kernel_rfl) (by decide) (by decide) (fun _ _ _ h => h) (Or.inl ⟨by kernel_rfl, ?_⟩) hHeld ?_
        · intro w' hSw
          go_simp
        refine wpAnyT_takeB (i := 8) (v := .slice (some ⟨b4, o4, none⟩) (m + 1) c4) rfl (by kernel_rfl) (by kernel_rfl) (by kernel_rfl) (by kernel_rfl) (by kernel_rfl) (by decide) (by decide) (fun _ _ _ h => h) (Or.inl ⟨by kernel_rfl, ?_⟩) hHeld ?_
        · intro w' hSw
          go_simp
        simp only [Act.put, List.setIfInBounds_toArray]
        refine wpAnyT_takeB (i := 9) (v := .int .i64 k) rfl (by kernel_rfl) (by kernel_rfl) (by kernel_rfl) (by kernel_rfl) (by kernel_rfl) (by decide) (by decide) (fun _ _ _ h => h) (Or.inl ⟨by kernel_rfl, ?_⟩) hHeld ?_
        · intro w' hSw
          go_simp
        refine wpAnyT_takeB (i := 10) (v := .int .i64 ((k : Int) + 2)) rfl (by kernel_rfl) (by kernel_rfl) (by kernel_rfl) (by kernel_rfl) (by kernel_rfl) (by decide) (by decide) (fun _ _ _ h => h) (Or.inl ⟨by kernel_rfl, ?_⟩) hHeld ?_
        · intro w' hSw
          go_simp
        simp only [Act.put]
        refine wpAnyT_takeB (i := 11) (v := .slice X4 (m - (k + 1)) C4) rfl (by kernel_rfl) (by kernel_rfl) (by kernel_rfl) (by kernel_rfl) (by kernel_rfl) (by decide) (by decide) (fun _ _ _ h => h) (Or.inl ⟨by kernel_rfl, ?_⟩) hHeld ?_
        · intro w' hSw
          rcases HV4.out with ⟨h, rfl, rfl⟩ | ⟨h, rfl, rfl⟩ <;> go_simp
        refine wpAnyT_takeB (i := 12) (v := .slice (some ⟨b1, o1, none⟩) m c1) rfl (by kernel_rfl) (by kernel_rfl) (by kernel_rfl) (by kernel_rfl) (by kernel_rfl) (by decide) (by decide) (fun _ _ _ h => h) (Or.inl ⟨by kernel_rfl, ?_⟩) hHeld ?_
        · intro w' hSw
          go_simp
        simp only [Act.put]
        refine wpAnyT_takeB (i := 13) (v := .int .i64 k) rfl (by kernel_rfl) (by kernel_rfl) (by kernel_rfl) (by kernel_rfl) (by kernel_rfl) (by decide) (by decide) (fun _ _ _ h => h) (Or.inl ⟨by kernel_rfl, ?_⟩) hHeld ?_
        · intro w' hSw
          go_simp
        refine wpAnyT_takeB (i := 14) (v := .int .i64 ((k : Int) + 1)) rfl (by kernel_rfl) (by kernel_rfl) (by kernel_rfl) (by kernel_rfl) (by kernel_rfl) (by decide) (by decide) (fun _ _ _ h => h) (Or.inl ⟨by kernel_rfl, ?_⟩) hHeld ?_
        · intro w' hSw
          go_simp
        simp only [Act.put]
        refine wpAnyT_takeB (i := 15) (v := .slice X1 (m - (k + 1)) C1) rfl (by kernel_rfl) (by kernel_rfl) (by kernel_rfl) (by kernel_rfl) (by kernel_rfl) (by decide) (by decide) (fun _ _ _ h => h) (Or.inl ⟨by kernel_rfl, ?_⟩) hHeld ?_
        · intro w' hSw
          rcases HV1.out with ⟨h, rfl, rfl⟩ | ⟨h, rfl, rfl⟩ <;> go_simp
        simp only [Act.put]
        refine wpAnyT_one (i := 16) (by kernel_rfl) rfl Ob.head (fun K hK => ?_)
        go_simp
        refine (HT2.out _ hHeld.2.1).mono ?_
        rintro e w' ⟨rfl, hS⟩
        refine hK.out _ _ ⟨trivial, hS⟩ (fun hHeld => ?_)
        clear hK K
        refine wpAnyT_takeB (i := 17) (v := .bool true) rfl (by kernel_rfl) (by kernel_rfl) (by kernel_rfl) (by kernel_rfl) (by kernel_rfl) (by decide) (by decide) (fun _ _ _ h => h) (Or.inl ⟨by kernel_rfl, ?_⟩) hHeld ?_
        · intro w' hSw
          go_simp
        refine wpAnyT_takeB (i := 18) (v := .bool true) rfl (by kernel_rfl) (by kernel_rfl) (by kernel_rfl) (by kernel_rfl) (by kernel_rfl) (by decide) (by decide) (fun _ _ _ h => h) (Or.inl ⟨by kernel_rfl, ?_⟩) hHeld ?_
        · intro w' hSw
          go_simp
        simp only [Act.put, List.setIfInBounds_toArray]
        refine wpAnyT_takeB (i := 19) (v := .slice (some ⟨b4, o4, none⟩) (m + 1) c4) rfl (by kernel_rfl) (by kernel_rfl) (by kernel_rfl) (by kernel_rfl) (by kernel_rfl) (by decide) (by decide) (fun _ _ _ h => h) (Or.inl ⟨by kernel_rfl, ?_⟩) hHeld ?_
        · intro w' hSw
          go_simp
        refine wpAnyT_takeB (i := 20) (v := .int .i64 k) rfl (by kernel_rfl) (by kernel_rfl) (by kernel_rfl) (by kernel_rfl) (by kernel_rfl) (by decide) (by decide) (fun _ _ _ h => h) (Or.inl ⟨by kernel_rfl, ?_⟩) hHeld ?_
        · intro w' hSw
          go_simp
        simp only [Act.put]
        refine wpAnyT_takeB (i := 21) (v := .pointer (some ⟨b4, o4 + k * 2, none⟩)) rfl (by kernel_rfl) (by kernel_rfl) (by kernel_rfl) (by kernel_rfl) (by kernel_rfl) (by decide) (by decide) (fun _ _ _ h => h) (Or.inl ⟨by kernel_rfl, ?_⟩) hHeld ?_
        · intro w' hSw
          go_simp
        refine wpAnyT_takeB (i := 22) (v := .pointer (some ⟨b4, o4 + k * 2 + 1, none⟩)) rfl (by kernel_rfl) (by kernel_rfl) (by kernel_rfl) (by kernel_rfl) (by kernel_rfl) (by decide) (by decide) (fun _ _ _ h => h) (Or.inl ⟨by kernel_rfl, ?_⟩) hHeld ?_
        · intro w' hSw
          go_simp
        simp only [Act.put]
        refine wpAnyT_takeB (i := 23) (v := .int .i64 (Z k)) rfl (by kernel_rfl) (by kernel_rfl) (by kernel_rfl) (by kernel_rfl) (by kernel_rfl) (by decide) (by decide) (fun _ _ _ h => h) (Or.inl ⟨by kernel_rfl, ?_⟩) hHeld ?_
        · intro w' hSw
          go_simp
        refine wpAnyT_takeB (i := 24) (v := .slice (some ⟨b4, o4, none⟩) (m + 1) c4) rfl (by kernel_rfl) (by kernel_rfl) (by kernel_rfl) (by kernel_rfl) (by kernel_rfl) (by decide) (by decide) (fun _ _ _ h => h) (Or.inl ⟨by kernel_rfl, ?_⟩) hHeld ?_
        · intro w' hSw
          go_simp
        simp only [Act.put]
        refine wpAnyT_takeB (i := 25) (v := .int .i64 k) rfl (by kernel_rfl) (by kernel_rfl) (by kernel_rfl) (by kernel_rfl) (by kernel_rfl) (by decide) (by decide) (fun _ _ _ h => h) (Or.inl ⟨by kernel_rfl, ?_⟩) hHeld ?_
        · intro w' hSw
          go_simp
        refine wpAnyT_takeB (i := 26) (v := .int .i64 ((k : Int) + 1)) rfl (by kernel_rfl) (by kernel_rfl) (by kernel_rfl) (by kernel_rfl) (by kernel_rfl) (by decide) (by decide) (fun _ _ _ h => h) (Or.inl ⟨by kernel_rfl, ?_⟩) hHeld ?_
        · intro w' hSw
          go_simp
        simp only [Act.put]
        refine wpAnyT_takeB (i := 27) (v := .pointer (some ⟨b4, o4 + (k + 1) * 2, none⟩)) rfl (by kernel_rfl) (by kernel_rfl) (by kernel_rfl) (by kernel_rfl) (by kernel_rfl) (by decide) (by decide) (fun _ _ _ h => h) (Or.inl ⟨by kernel_rfl, ?_⟩) hHeld ?_
        · intro w' hSw
          go_simp
        refine wpAnyT_takeB (i := 28) (v := .pointer (some ⟨b4, o4 + (k + 1) * 2 + 1, none⟩)) rfl (by kernel_rfl) (by kernel_rfl) (by kernel_rfl) (by kernel_rfl) (by kernel_rfl) (by decide) (by decide) (fun _ _ _ h => h) (Or.inl ⟨by kernel_rfl, ?_⟩) hHeld ?_
        · intro w' hSw
          go_simp
        simp only [Act.put]
        refine wpAnyT_takeB (i := 29) (v := .int .i64 (Z (k + 1))) rfl (by kernel_rfl) (by kernel_rfl) (by kernel_rfl) (by kernel_rfl) (by kernel_rfl) (by decide) (by decide) (fun _ _ _ h => h) (Or.inl ⟨by kernel_rfl, ?_⟩) hHeld ?_
        · intro w' hSw
          go_simp
        refine wpAnyT_takeB (i := 30) (v := .int .i64 y) rfl (by kernel_rfl) (by kernel_rfl) (by kernel_rfl) (by kernel_rfl) (by kernel_rfl) (by decide) (by decide) (fun _ _ _ h => h) (Or.inl ⟨by kernel_rfl, ?_⟩) hHeld ?_
        · intro w' hSw
          go_simp
        simp only [Act.put]
        refine wpAnyT_takeB (i := 31) (v := .slice (some ⟨b1, o1, none⟩) m c1) rfl (by kernel_rfl) (by kernel_rfl) (by kernel_rfl) (by kernel_rfl) (by kernel_rfl) (by decide) (by decide) (fun _ _ _ h => h) (Or.inl ⟨by kernel_rfl, ?_⟩) hHeld ?_
        · intro w' hSw
          go_simp
        refine wpAnyT_takeB (i := 32) (v := .int .i64 k) rfl (by kernel_rfl) (by kernel_rfl) (by kernel_rfl) (by kernel_rfl) (by kernel_rfl) (by decide) (by decide) (fun _ _ _ h => h) (Or.inl ⟨by kernel_rfl, ?_⟩) hHeld ?_
        · intro w' hSw
          go_simp
        simp only [Act.put]
        refine wpAnyT_takeB (i := 33) (v := .pointer (some ⟨b1, o1 + k * 2, none⟩)) rfl (by kernel_rfl) (by kernel_rfl) (by kernel_rfl) (by kernel_rfl) (by kernel_rfl) (by decide) (by decide) (fun _ _ _ h => h) (Or.inl ⟨by kernel_rfl, ?_⟩) hHeld ?_
        · intro w' hSw
          go_simp
        refine wpAnyT_takeB (i := 34) (v := .pointer (some ⟨b1, o1 + k * 2 + 1, none⟩)) rfl (by kernel_rfl) (by kernel_rfl) (by kernel_rfl) (by kernel_rfl) (by kernel_rfl) (by decide) (by decide) (fun _ _ _ h => h) (Or.inl ⟨by kernel_rfl, ?_⟩) hHeld ?_
        · intro w' hSw
          go_simp
        simp only [Act.put]
        refine wpAnyT_takeB (i := 35) (v := .int .i64 y) rfl (by kernel_rfl) (by kernel_rfl) (by kernel_rfl) (by kernel_rfl) (by kernel_rfl) (by decide) (by decide) (fun _ _ _ h => h) (Or.inl ⟨by kernel_rfl, ?_⟩) hHeld ?_
        · intro w' hSw
          go_simp
        refine wpAnyT_takeB (i := 36) (v := .bool true) rfl (by kernel_rfl) (by kernel_rfl) (by kernel_rfl) (by kernel_rfl) (by kernel_rfl) (by decide) (by decide) (fun _ _ _ h => h) (Or.inl ⟨by kernel_rfl, ?_⟩) hHeld ?_
        · intro w' hSw
          go_simp
        simp only [Act.put]
        refine wpAnyT_takeB (i := 37) (v := .bool true) rfl (by kernel_rfl) (by kernel_rfl) (by kernel_rfl) (by kernel_rfl) (by kernel_rfl) (by decide) (by decide) (fun _ _ _ h => h) (Or.inl ⟨by kernel_rfl, ?_⟩) hHeld ?_
        · intro w' hSw
          go_simp
        refine wpAnyT_takeB (i := 38) (v := .bool true) rfl (by kernel_rfl) (by kernel_rfl) (by kernel_rfl) (by kernel_rfl) (by kernel_rfl) (by decide) (by decide) (fun _ _ _ h => h) (Or.inl ⟨by kernel_rfl, ?_⟩) hHeld ?_
        · intro w' hSw
          go_simp
        simp only [Act.put]
        refine wpAnyT_takeB (i := 39) (v := .slice (some ⟨b4, o4, none⟩) (m + 1) c4) rfl (by kernel_rfl) (by kernel_rfl) (by kernel_rfl) (by kernel_rfl) (by kernel_rfl) (by decide) (by decide) (fun _ _ _ h => h) (Or.inl ⟨by kernel_rfl, ?_⟩) hHeld ?_
        · intro w' hSw
          go_simp
        refine wpAnyT_takeB (i := 40) (v := .int .i64 k) rfl (by kernel_rfl) (by kernel_rfl) (by kernel_rfl) (by kernel_rfl) (by kernel_rfl) (by decide) (by decide) (fun _ _ _ h => h) (Or.inl ⟨by kernel_rfl, ?_⟩) hHeld ?_
        · intro w' hSw
          go_simp
        simp only [Act.put]
        refine wpAnyT_takeB (i := 41) (v := .pointer (some ⟨b4, o4 + k * 2, none⟩)) rfl (by kernel_rfl) (by kernel_rfl) (by kernel_rfl) (by kernel_rfl) (by kernel_rfl) (by decide) (by decide) (fun _ _ _ h => h) (Or.inl ⟨by kernel_rfl, ?_⟩) hHeld ?_
        · intro w' hSw
          go_simp
        refine wpAnyT_takeB (i := 42) (v := .pointer (some ⟨b4, o4 + k * 2, none⟩)) rfl (by kernel_rfl) (by kernel_rfl) (by kernel_rfl) (by kernel_rfl) (by kernel_rfl) (by decide) (by decide) (fun _ _ _ h => h) (Or.inl ⟨by kernel_rfl, ?_⟩) hHeld ?_
        · intro w' hSw
          go_simp
        simp only [Act.put]
        refine wpAnyT_takeB (i := 43) (v := .int .i64 a) rfl (by kernel_rfl) (by kernel_rfl) (by kernel_rfl) (by kernel_rfl) (by kernel_rfl) (by decide) (by decide) (fun _ _ _ h => h) (Or.inl ⟨by kernel_rfl, ?_⟩) hHeld ?_
        · intro w' hSw
          go_simp
        refine wpAnyT_takeB (i := 44) (v := .slice (some ⟨b4, o4, none⟩) (m + 1) c4) rfl (by kernel_rfl) (by kernel_rfl) (by kernel_rfl) (by kernel_rfl) (by kernel_rfl) (by decide) (by decide) (fun _ _ _ h => h) (Or.inl ⟨by kernel_rfl, ?_⟩) hHeld ?_
        · intro w' hSw
          go_simp
        simp only [Act.put]
        refine wpAnyT_takeB (i := 45) (v := .int .i64 k) rfl (by kernel_rfl) (by kernel_rfl) (by kernel_rfl) (by kernel_rfl) (by kernel_rfl) (by decide) (by decide) (fun _ _ _ h => h) (Or.inl ⟨by kernel_rfl, ?_⟩) hHeld ?_
        · intro w' hSw
          go_simp
        refine wpAnyT_takeB (i := 46) (v := .int .i64 ((k : Int) + 1)) rfl (by kernel_rfl) (by kernel_rfl) (by kernel_rfl) (by kernel_rfl) (by kernel_rfl) (by decide) (by decide) (fun _ _ _ h => h) (Or.inl ⟨by kernel_rfl, ?_⟩) hHeld ?_
        · intro w' hSw
          go_simp
        simp only [Act.put]
        refine wpAnyT_takeB (i := 47) (v := .pointer (some ⟨b4, o4 + (k + 1) * 2, none⟩)) rfl (by kernel_rfl) (by kernel_rfl) (by kernel_rfl) (by kernel_rfl) (by kernel_rfl) (by decide) (by decide) (fun _ _ _ h => h) (Or.inl ⟨by kernel_rfl, ?_⟩) hHeld ?_
        · intro w' hSw
          go_simp
        refine wpAnyT_takeB (i := 48) (v := .pointer (some ⟨b4, o4 + (k + 1) * 2, none⟩)) rfl (by kernel_rfl) (by kernel_rfl) (by kernel_rfl) (by kernel_rfl) (by kernel_rfl) (by decide) (by decide) (fun _ _ _ h => h) (Or.inl ⟨by kernel_rfl, ?_⟩) hHeld ?_
        · intro w' hSw
          go_simp
        simp only [Act.put]
        refine wpAnyT_takeB (i := 49) (v := .int .i64 qk) rfl (by kernel_rfl) (by kernel_rfl) (by kernel_rfl) (by kernel_rfl) (by kernel_rfl) (by decide) (by decide) (fun _ _ _ h => h) (Or.inl ⟨by kernel_rfl, ?_⟩) hHeld ?_
        · intro w' hSw
          go_simp
        refine wpAnyT_takeB (i := 50) (v := .int .i64 pk) rfl (by kernel_rfl) (by kernel_rfl) (by kernel_rfl) (by kernel_rfl) (by kernel_rfl) (by decide) (by decide) (fun _ _ _ h => h) (Or.inl ⟨by kernel_rfl, ?_⟩) hHeld ?_
        · intro w' hSw
          go_simp
        simp only [Act.put]
        refine wpAnyT_takeB (i := 51) (v := .slice (some ⟨b1, o1, none⟩) m c1) rfl (by kernel_rfl) (by kernel_rfl) (by kernel_rfl) (by kernel_rfl) (by kernel_rfl) (by decide) (by decide) (fun _ _ _ h => h) (Or.inl ⟨by kernel_rfl, ?_⟩) hHeld ?_
        · intro w' hSw
          go_simp
        refine wpAnyT_takeB (i := 52) (v := .int .i64 k) rfl (by kernel_rfl) (by kernel_rfl) (by kernel_rfl) (by kernel_rfl) (by kernel_rfl) (by decide) (by decide) (fun _ _ _ h => h) (Or.inl ⟨by kernel_rfl, ?_⟩) hHeld ?_
        · intro w' hSw
          go_simp
        simp only [Act.put]
        refine wpAnyT_takeB (i := 53) (v := .pointer (some ⟨b1, o1 + k * 2, none⟩)) rfl (by kernel_rfl) (by kernel_rfl) (by kernel_rfl) (by kernel_rfl) (by kernel_rfl) (by decide) (by decide) (fun _ _ _ h => h) (Or.inl ⟨by kernel_rfl, ?_⟩) hHeld ?_
        · intro w' hSw
          go_simp
        refine wpAnyT_takeB (i := 54) (v := .pointer (some ⟨b1, o1 + k * 2, none⟩)) rfl (by kernel_rfl) (by kernel_rfl) (by kernel_rfl) (by kernel_rfl) (by kernel_rfl) (by decide) (by decide) (fun _ _ _ h => h) (Or.inl ⟨by kernel_rfl, ?_⟩) hHeld ?_
        · intro w' hSw
          go_simp
        simp only [Act.put]
        refine wpAnyT_takeB (i := 55) (v := .int .i64 pk) rfl (by kernel_rfl) (by kernel_rfl) (by kernel_rfl) (by kernel_rfl) (by kernel_rfl) (by decide) (by decide) (fun _ _ _ h => h) (Or.inl ⟨by kernel_rfl, ?_⟩) hHeld ?_
        · intro w' hSw
          go_simp
        refine wpAnyT_takeB (i := 56) (v := .bool true) rfl (by kernel_rfl) (by kernel_rfl) (by kernel_rfl) (by kernel_rfl) (by kernel_rfl) (by decide) (by decide) (fun _ _ _ h => h) (Or.inl ⟨by kernel_rfl, ?_⟩) hHeld ?_
        · intro w' hSw
          go_simp
        simp only [Act.put]
        refine wpAnyT_takeB (i := 57) (v := .bool true) rfl (by kernel_rfl) (by kernel_rfl) (by kernel_rfl) (by kernel_rfl) (by kernel_rfl) (by decide) (by decide) (fun _ _ _ h => h) (Or.inl ⟨by kernel_rfl, ?_⟩) hHeld ?_
        · intro w' hSw
          go_simp
        simp only [Act.put]
        refine wpAnyT_one (i := 58) (by kernel_rfl) rfl (Ob.last (by kernel_rfl) (by kernel_rfl)) (fun K hK => ?_)
        go_simp
        have hq := hHeld.2.1
        refine hK.out _ _ trivial (fun _ => ?_)
        clear hK K
        refine wpAnyT_done (by kernel_rfl) ?_
        go_wp2_with fail
        go_ret
        obtain ⟨q, rfl⟩ := hq.out
        exact ⟨rfl, below_quiet B5.out ⟨q, rfl⟩⟩
  · have hE1 : (E != 0) = true := by simpa using hE
    go_wp2_with fail
    go_ret
    exact ⟨rfl, B3.out⟩
end Go.Proofs.Ythmebjbaigiehaa
