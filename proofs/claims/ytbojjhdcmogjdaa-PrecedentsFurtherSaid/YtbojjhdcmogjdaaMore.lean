/- A book with one case more. Plain laws, and the book in memory. -/
import Derived.Test.YtbojjhdcmogjdaaReas
import Derived.Test.YtbojjhdcmogjdaaApp
import Derived.Test.YtbojjhdcmogjdaaSane
namespace Go.Proofs.Ytbojjhdcmogjdaa
open Go.RowKit

/-- with one more at place n -/
def upd {α : Type} (n : Nat) (f : Nat → α) (v : α) (j : Nat) : α := if j < n then f j else v
theorem upd_lt {α : Type} {n j : Nat} {f : Nat → α} {v : α} (h : j < n) : upd n f v j = f j := if_pos h
theorem upd_at {α : Type} {n : Nat} {f : Nat → α} {v : α} : upd n f v n = v := if_neg (by omega)

section
variable {S : Nat → Int} {sn n : Nat} {no hr wi : Nat → Int} {fn : Nat → Nat} {F : Nat → Nat → Int} {rn : Nat → Nat} {R : Nat → Nat → Int} {FA RA : Nat → Option Addr} {fc rc : Nat → Nat}
  {N1 H1 X1 : Int} {A1 A2 : Option Addr} {m1 c1 m2 c2 : Nat} {l1 l2 : Nat → Int}
/-- the cells of the first cases -/
def rowC (no hr wi : Nat → Int) (FA : Nat → Option Addr) (fn fc : Nat → Nat) (RA : Nat → Option Addr) (rn rc : Nat → Nat) (n : Nat) : List Value := (List.range (n * 5)).map (csc no hr wi FA fn fc RA rn rc)
theorem rowC_len : (rowC no hr wi FA fn fc RA rn rc n).length = n * 5 := by simp [rowC]
theorem rowC_at {j : Nat} (h : j < n * 5) : (rowC no hr wi FA fn fc RA rn rc n)[j]? = some (csc no hr wi FA fn fc RA rn rc j) := by simp [rowC, h]
theorem csc_one (j : Nat) : (csc no hr wi FA fn fc RA rn rc j).oneCell' = true := by
  unfold csc
  split
  · rfl
  split
  · rfl
  split
  · rfl
  split <;> rfl
theorem rowC_one : ∀ u ∈ rowC no hr wi FA fn fc RA rn rc n, u.oneCell' = true := by
  intro u hu
  simp only [rowC, List.mem_map] at hu
  obtain ⟨j, _, rfl⟩ := hu
  exact csc_one j
theorem rowC_news {W : World} {B : Nat} {CA : Option Addr} (h : Rd W B CA (n * 5) (csc no hr wi FA fn fc RA rn rc)) : ∀ a, CA = some a → ∀ j u, (rowC no hr wi FA fn fc RA rn rc n)[j]? = some u → W.cell? (a.add j) = some u := by
  intro a ha j u hu
  obtain ⟨hj, rfl⟩ := List.getElem?_eq_some_iff.1 hu
  have hj' : j < n * 5 := by simpa [rowC] using hj
  obtain ⟨b, off, e, _, hc⟩ := h (by omega)
  rw [ha] at e
  cases e
  rw [add_none, hc j hj']
  simp [rowC]
theorem rd_none {W : World} {B k : Nat} {f : Nat → Value} (h : Rd W B none k f) : k = 0 := by
  rcases Nat.eq_zero_or_pos k with h0 | h0
  · exact h0
  · obtain ⟨b, off, e, _⟩ := h h0; cases e
/-- the new case's cells -/
def newC (N1 H1 X1 : Int) (A1 : Option Addr) (m1 c1 : Nat) (A2 : Option Addr) (m2 c2 : Nat) : List Value := [.int .i64 N1, .int .i64 H1, .int .i64 X1, .slice A1 m1 c1, .slice A2 m2 c2]
theorem newC_one : ∀ u ∈ newC N1 H1 X1 A1 m1 c1 A2 m2 c2, u.oneCell' = true := by
  intro u hu
  simp [newC] at hu
  rcases hu with rfl | rfl | rfl | rfl | rfl <;> rfl
theorem csc_upd {j : Nat} (hj : j < (n + 1) * 5) : (rowC no hr wi FA fn fc RA rn rc n ++ newC N1 H1 X1 A1 m1 c1 A2 m2 c2)[j]? = some (csc (upd n no N1) (upd n hr H1) (upd n wi X1) (upd n FA A1) (upd n fn m1) (upd n fc c1) (upd n RA A2) (upd n rn m2) (upd n rc c2) j) := by
  by_cases h : j < n * 5
  · rw [List.getElem?_append_left (by rw [rowC_len]; exact h), rowC_at h]
    have e : j / 5 < n := by omega
    unfold csc
    rw [upd_lt e, upd_lt e, upd_lt e, upd_lt e, upd_lt e, upd_lt e, upd_lt e, upd_lt e, upd_lt e]
  · rw [List.getElem?_append_right (by rw [rowC_len]; omega), rowC_len]
    obtain ⟨k, hk, rfl⟩ : ∃ k, k < 5 ∧ j = n * 5 + k := ⟨j - n * 5, by omega, by omega⟩
    have e : (n * 5 + k) / 5 = n := by omega
    rw [show n * 5 + k - n * 5 = k by omega]
    unfold csc
    rw [e, upd_at, upd_at, upd_at, upd_at, upd_at, upd_at, upd_at, upd_at, upd_at]
    match k, hk with
    | 0, _ => rw [if_pos (by omega)]; rfl
    | 1, _ => rw [if_neg (by omega), if_pos (by omega)]; rfl
    | 2, _ => rw [if_neg (by omega), if_neg (by omega), if_pos (by omega)]; rfl
    | 3, _ => rw [if_neg (by omega), if_neg (by omega), if_neg (by omega), if_pos (by omega)]; rfl
    | 4, _ => rw [if_neg (by omega), if_neg (by omega), if_neg (by omega), if_neg (by omega)]; rfl
/-- the book with one case more, in memory -/
theorem RdK.more {W : World} {B base c : Nat} {SA CA A : Option Addr} (h : RdK W B SA sn S CA n no hr wi FA fn fc F RA rn rc R) (hB : B ≤ W.heap.size) (h1 : Rd W W.heap.size A1 m1 (fun j => .int .i64 (l1 j))) (h2 : Rd W W.heap.size A2 m2 (fun j => .int .i64 (l2 j)))
    (ho : W.ownsRow base 44 5 (.slice A (n + 1) c) (n + 1) (rowC no hr wi FA fn fc RA rn rc n ++ newC N1 H1 X1 A1 m1 c1 A2 m2 c2)) :
    RdK W W.heap.size SA sn S A (n + 1) (upd n no N1) (upd n hr H1) (upd n wi X1) (upd n FA A1) (upd n fn m1) (upd n fc c1) (upd n F l1) (upd n RA A2) (upd n rn m2) (upd n rc c2) (upd n R l2) := by
  refine ⟨h.1.mono hB, Rd.of_own ho (fun j hj => csc_upd hj), fun j hj => ?_⟩
  by_cases e : j < n
  · rw [upd_lt e, upd_lt e, upd_lt e, upd_lt e, upd_lt e, upd_lt e]
    exact ⟨(h.2.2 j e).1.mono hB, (h.2.2 j e).2.mono hB⟩
  · obtain rfl : j = n := by omega
    rw [upd_at, upd_at, upd_at, upd_at, upd_at, upd_at]
    exact ⟨h1, h2⟩
theorem sm_more (h : SmK sn n fn rn) (hn : n ≤ 99) (h1 : m1 ≤ 60) (h2 : m2 ≤ 60) : SmK sn (n + 1) (upd n fn m1) (upd n rn m2) := by
  refine ⟨h.1, by omega, fun j hj => ?_⟩
  by_cases e : j < n
  · rw [upd_lt e, upd_lt e]; exact h.2.2 j e
  · obtain rfl : j = n := by omega
    rw [upd_at, upd_at]; exact ⟨h1, h2⟩
/-- it is right, if the new case is -/
theorem chk_more (h : (chkE S sn n no hr wi fn F rn R) = 0) (hn : n < 64) (hN : 0 ≤ N1 ∧ N1 ≤ 1048576) (hH : 0 ≤ H1 ∧ H1 ≤ 4096) (hX : X1 = 0 ∨ X1 = 1) (ho : n = 0 ∨ no (n - 1) < N1 ∧ hr (n - 1) ≤ H1) (hl : okS sn l1 m1 = true) (hr2 : reaB S sn l1 m1 l2 m2 X1 = true) :
    chkE S sn (n + 1) (upd n no N1) (upd n hr H1) (upd n wi X1) (upd n fn m1) (upd n F l1) (upd n rn m2) (upd n R l2) = 0 := by
  obtain ⟨h1, h2, h3, h4⟩ := chk_zero h
  refine chk_ok (by omega) h3 (casN_of _ fun j hj => ?_)
  by_cases e : j < n
  · have h5 := h4 j e
    have e' : j = 0 ∨ j - 1 < n := by omega
    unfold casB numB ordB at h5 ⊢
    rw [upd_lt e, upd_lt e, upd_lt e, upd_lt e, upd_lt e, upd_lt e, upd_lt e]
    rw [upd_lt (show j - 1 < n by omega), upd_lt (show j - 1 < n by omega)]
    exact h5
  · obtain rfl : j = n := by omega
    unfold casB numB ordB
    rw [upd_at, upd_at, upd_at, upd_at, upd_at, upd_at, upd_at, hl, hr2, inB_iff.2 hN, inB_iff.2 hH, inB_iff.2 (show 0 ≤ X1 ∧ X1 ≤ 1 by omega)]
    by_cases h0 : j = 0
    · subst h0; rfl
    · obtain ⟨h6, h7⟩ := ho.resolve_left h0
      rw [upd_lt (show j - 1 < j by omega), upd_lt (show j - 1 < j by omega)]
      simp [h6, h7]
end

section
variable {n : Nat}
theorem pr_isSome {p : Nat → Nat → Bool} : (prB p n 0 n).isSome = true ↔ ∃ i j, i < j ∧ j < n ∧ p i j = true := by
  constructor
  · intro h
    cases hh : prB p n 0 n with
    | none => rw [hh] at h; cases h
    | some o =>
      have key : ∀ m i, i + m = n → prB p n i m = some o → ∃ i j, i < j ∧ j < n ∧ p i j = true := by
        intro m
        induction m with
        | zero => intro i _ h; cases h
        | succ m ih =>
          intro i hi h
          unfold prB at h
          split at h
          · rename_i j hj
            obtain ⟨h1, h2, _⟩ := fstB_some _ _ _ hj
            exact ⟨i, j, by omega, by omega, h2⟩
          · exact ih (i + 1) (by omega) h
      exact key n 0 (by omega) hh
  · rintro ⟨i, j, hij, hj, hp⟩
    cases hh : prB p n 0 n with
    | some o => rfl
    | none =>
      have key : ∀ m i, i + m = n → prB p n i m = none → ∀ a, i ≤ a → a < n → fstB (p a) (a + 1) (n - (a + 1)) = none := by
        intro m
        induction m with
        | zero => intro i hi _ a h1 h2; omega
        | succ m ih =>
          intro i hi h a h1 h2
          unfold prB at h
          split at h
          · cases h
          · rename_i hn
            by_cases e : a = i
            · subst e; exact hn
            · exact ih (i + 1) (by omega) h a (by omega) h2
      have h1 := key n 0 (by omega) hh i (by omega) (by omega)
      rw [fstB_none _ _ h1 j (by omega) (by omega)] at hp
      cases hp
end

section
variable {S : Nat → Int} {sn n : Nat} {no hr wi : Nat → Int} {fn : Nat → Nat} {F : Nat → Nat → Int} {rn : Nat → Nat} {R : Nat → Nat → Int} {l : Nat → Int} {m : Nat}
theorem clsL_iff {i j : Nat} : clsL wi fn F rn R i j = true ↔ wi i ≠ wi j ∧ allB (R i) (F j) (fn j) (rn i) = true ∧ allB (R j) (F i) (fn i) (rn j) = true := by
  unfold clsL claL
  rw [Bool.and_eq_true, Bool.and_eq_true, and_assoc]
  simp
/-- a court without clashes is never bound to both sides -/
theorem not_both (h : (chkE S sn n no hr wi fn F rn R) = 0) (hl : okS sn l m = true) (hc : (prB (clsP wi fn F rn R) n 0 n).isSome = false) : ((fstB (bndP S sn wi fn F rn R l m 0) 0 n).isSome && (fstB (bndP S sn wi fn F rn R l m 1) 0 n).isSome) = false := by
  rw [Bool.eq_false_iff]
  intro hb
  rw [Bool.and_eq_true, fst_isSome, fst_isSome] at hb
  obtain ⟨⟨i, hi, h1⟩, j, hj, h2⟩ := hb
  rw [bnd_eq h hl 0 hi, bndL_iff] at h1
  rw [bnd_eq h hl 1 hj, bndL_iff] at h2
  obtain ⟨_, _, _, hbk⟩ := book_at h
  have part : ∀ {a b : Nat}, a < n → allB (R a) l m (rn a) = true → wi a ≠ wi b → (∀ z, hasB l z m = true → S z.toNat ≠ wi b → hasB (F b) z (fn b) = true) → allB (R a) (F b) (fn b) (rn a) = true := fun {a b} ha h3 h4 h5 => by
    obtain ⟨_, _, _, _, h6⟩ := hbk a ha
    rw [allB_iff] at h3 ⊢
    rw [sideB_iff] at h6
    intro k hk
    refine h5 _ (h3 k hk) ?_
    rw [h6 k hk]; exact h4
  have hne : wi i ≠ wi j := by rw [h1.1, h2.1]; decide
  have c1 := part hi h1.2.1 hne h2.2.2
  have c2 := part hj h2.2.1 (Ne.symm hne) h1.2.2
  have e : i ≠ j := fun e => by subst e; exact hne rfl
  have hno : ∀ a b, a < b → b < n → clsP wi fn F rn R a b = false := fun a b hab hb => by
    rw [Bool.eq_false_iff]
    intro h7
    rw [(pr_isSome (p := clsP wi fn F rn R)).2 ⟨a, b, hab, hb, h7⟩] at hc
    cases hc
  rcases Nat.lt_or_gt_of_ne e with h8 | h8
  · have h9 := hno i j h8 hj
    rw [cls_eq h hi hj, clsL_iff.2 ⟨hne, c1, c2⟩] at h9
    cases h9
  · have h9 := hno j i h8 hi
    rw [cls_eq h hj hi, clsL_iff.2 ⟨Ne.symm hne, c2, c1⟩] at h9
    cases h9
/-- with a decision that may be made none clash; with another one some do -/
theorem court_now {N1 H1 x : Int} {L : List Int} (h : (chkE S sn n no hr wi fn F rn R) = 0) (hl : okS sn l m = true) (hL : okS sn (ixL L) L.length = true) (hc : (prB (clsP wi fn F rn R) n 0 n).isSome = false)
    (h' : chkE S sn (n + 1) (upd n no N1) (upd n hr H1) (upd n wi x) (upd n fn m) (upd n F l) (upd n rn L.length) (upd n R (ixL L)) = 0) :
    (prB (clsP (upd n wi x) (upd n fn m) (upd n F l) (upd n rn L.length) (upd n R (ixL L))) (n + 1) 0 (n + 1)).isSome = (fstB (mayP wi fn F rn R l m (ixL L) L.length x) 0 n).isSome := by
  refine bool_eq_of_iff ?_
  rw [pr_isSome, fst_isSome]
  constructor
  · rintro ⟨i, j, hij, hj, hp⟩
    rw [cls_eq h' (by omega) hj] at hp
    by_cases e : j < n
    · exfalso
      have h1 : clsL wi fn F rn R i j = true := by
        unfold clsL at hp ⊢
        rwa [upd_lt e, upd_lt e, upd_lt e, upd_lt e, upd_lt e, upd_lt (show i < n by omega), upd_lt (show i < n by omega), upd_lt (show i < n by omega), upd_lt (show i < n by omega), upd_lt (show i < n by omega)] at hp
      rw [← cls_eq h (by omega) e] at h1
      rw [(pr_isSome (p := clsP wi fn F rn R)).2 ⟨i, j, hij, e, h1⟩] at hc
      cases hc
    · obtain rfl : j = n := by omega
      refine ⟨i, hij, ?_⟩
      rw [may_eq h hl hL x hij]
      unfold clsL at hp
      rwa [upd_at, upd_at, upd_at, upd_at, upd_at, upd_lt hij, upd_lt hij, upd_lt hij, upd_lt hij, upd_lt hij] at hp
  · rintro ⟨i, hi, hp⟩
    refine ⟨i, n, hi, by omega, ?_⟩
    rw [may_eq h hl hL x hi] at hp
    rw [cls_eq h' (by omega) (by omega)]
    unfold clsL
    rwa [upd_at, upd_at, upd_at, upd_at, upd_at, upd_lt hi, upd_lt hi, upd_lt hi, upd_lt hi, upd_lt hi]
/-- what binds goes on binding with one case more -/
theorem bnd_more {X1 : Int} {m1 m2 : Nat} {l1 l2 : Nat → Int} {side : Int} {k : Nat} (hb : fstB (bndP S sn wi fn F rn R l m side) 0 n = some k) :
    fstB (bndP S sn (upd n wi X1) (upd n fn m1) (upd n F l1) (upd n rn m2) (upd n R l2) l m side) 0 (n + 1) = some k := by
  obtain ⟨h1, h2, h3⟩ := fstB_some n 0 k hb
  have e : ∀ j, j < n → bndP S sn (upd n wi X1) (upd n fn m1) (upd n F l1) (upd n rn m2) (upd n R l2) l m side j = bndP S sn wi fn F rn R l m side j := fun j hj => by
    unfold bndP
    rw [upd_lt hj, upd_lt hj, upd_lt hj, upd_lt hj, upd_lt hj]
  have h4 := fstB_skip (p := bndP S sn (upd n wi X1) (upd n fn m1) (upd n F l1) (upd n rn m2) (upd n R l2) l m side) k 0 ((n - k) + 1) (fun j _ hj => by rw [e j (by omega)]; exact h3 j (by omega) (by omega))
  have h5 : fstB (bndP S sn (upd n wi X1) (upd n fn m1) (upd n F l1) (upd n rn m2) (upd n R l2) l m side) k ((n - k) + 1) = some k := by rw [fstB, if_pos (by rw [e k (by omega)]; exact h2)]
  rw [show k + (n - k + 1) = n + 1 by omega, Nat.zero_add, h5] at h4
  exact h4
/-- the set with one factor more -/
def addL (sn : Nat) (l : Nat → Int) (m q : Nat) : List Int := fltL (fun z => decide (z = (q : Int)) || hasB l z m) (fun k => (k : Int)) sn
theorem addL_mem {q : Nat} {z : Int} : z ∈ addL sn l m q ↔ (z = (q : Int) ∨ hasB l z m = true) ∧ 0 ≤ z ∧ z < sn := by
  rw [addL, fltL_mem, hasB_iff, Bool.or_eq_true, decide_eq_true_eq]
  refine and_congr_right fun _ => ?_
  constructor
  · rintro ⟨k, hk, rfl⟩; omega
  · rintro ⟨h1, h2⟩; exact ⟨z.toNat, by omega, by omega⟩
theorem addL_ok {q : Nat} : okS sn (ixL (addL sn l m q)) (addL sn l m q).length = true :=
  ok_list (fltL_pw sn (fun j k h1 h2 => by omega)) (fun z hz => (addL_mem.1 hz).2)
/-- a further factor for a side ends no binding -/
theorem bnd_add (h : (chkE S sn n no hr wi fn F rn R) = 0) (hl : okS sn l m = true) {q : Nat} {side : Int} (hS : S q = side) (hb : (fstB (bndP S sn wi fn F rn R l m side) 0 n).isSome = true) :
    (fstB (bndP S sn wi fn F rn R (ixL (addL sn l m q)) (addL sn l m q).length side) 0 n).isSome = true := by
  rw [fst_isSome] at hb ⊢
  obtain ⟨j, hj, h1⟩ := hb
  refine ⟨j, hj, ?_⟩
  rw [bnd_eq h hl side hj, bndL_iff] at h1
  rw [bnd_eq h addL_ok side hj, bndL_iff]
  refine ⟨h1.1, ?_, fun z hz h2 => ?_⟩
  · have h3 := h1.2.1
    rw [allB_iff] at h3 ⊢
    intro k hk
    rw [has_list, addL_mem]
    have h4 := h3 k hk
    exact ⟨.inr h4, fav_range hl h4⟩
  · rw [has_list, addL_mem] at hz
    rcases hz.1 with rfl | h3
    · rw [Int.toNat_natCast, hS, h1.1] at h2
      exact absurd rfl h2
    · exact h1.2.2 z h3 h2
end
end Go.Proofs.Ytbojjhdcmogjdaa
