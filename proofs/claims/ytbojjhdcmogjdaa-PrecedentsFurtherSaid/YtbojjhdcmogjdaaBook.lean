/- The book of cases in memory, and what Check asks of it. Plain lemmas. -/
import Derived.Test.YtbojjhdcmogjdaaSets
namespace Go.Proofs.Ytbojjhdcmogjdaa
open Go.RowKit

/-- the cells of cases: five each -/
def csc (no hr wi : Nat → Int) (FA : Nat → Option Addr) (fn fc : Nat → Nat) (RA : Nat → Option Addr) (rn rc : Nat → Nat) (j : Nat) : Value :=
  if j % 5 = 0 then .int .i64 (no (j / 5)) else if j % 5 = 1 then .int .i64 (hr (j / 5)) else if j % 5 = 2 then .int .i64 (wi (j / 5)) else if j % 5 = 3 then .slice (FA (j / 5)) (fn (j / 5)) (fc (j / 5)) else .slice (RA (j / 5)) (rn (j / 5)) (rc (j / 5))
section
variable (no hr wi : Nat → Int) (FA : Nat → Option Addr) (fn fc : Nat → Nat) (RA : Nat → Option Addr) (rn rc : Nat → Nat) (j : Nat)
theorem csc_0 : csc no hr wi FA fn fc RA rn rc (j * 5) = .int .i64 (no j) := by
  unfold csc; rw [if_pos (by omega), show j * 5 / 5 = j by omega]
theorem csc_1 : csc no hr wi FA fn fc RA rn rc (j * 5 + 1) = .int .i64 (hr j) := by
  unfold csc; rw [if_neg (by omega), if_pos (by omega), show (j * 5 + 1) / 5 = j by omega]
theorem csc_2 : csc no hr wi FA fn fc RA rn rc (j * 5 + 2) = .int .i64 (wi j) := by
  unfold csc; rw [if_neg (by omega), if_neg (by omega), if_pos (by omega), show (j * 5 + 2) / 5 = j by omega]
theorem csc_3 : csc no hr wi FA fn fc RA rn rc (j * 5 + 3) = .slice (FA j) (fn j) (fc j) := by
  unfold csc; rw [if_neg (by omega), if_neg (by omega), if_neg (by omega), if_pos (by omega), show (j * 5 + 3) / 5 = j by omega]
theorem csc_4 : csc no hr wi FA fn fc RA rn rc (j * 5 + 4) = .slice (RA j) (rn j) (rc j) := by
  unfold csc; rw [if_neg (by omega), if_neg (by omega), if_neg (by omega), if_neg (by omega), show (j * 5 + 4) / 5 = j by omega]
end

/-- a book in memory -/
def RdK (w : World) (B : Nat) (SA : Option Addr) (sn : Nat) (S : Nat → Int) (CA : Option Addr) (n : Nat) (no hr wi : Nat → Int) (FA : Nat → Option Addr) (fn fc : Nat → Nat) (F : Nat → Nat → Int) (RA : Nat → Option Addr) (rn rc : Nat → Nat) (R : Nat → Nat → Int) : Prop :=
  Rd w B SA sn (fun k => .int .i64 (S k)) ∧ Rd w B CA (n * 5) (csc no hr wi FA fn fc RA rn rc) ∧ ∀ j, j < n → Rd w B (FA j) (fn j) (fun k => .int .i64 (F j k)) ∧ Rd w B (RA j) (rn j) (fun k => .int .i64 (R j k))
/-- its sizes are small -/
def SmK (sn n : Nat) (fn rn : Nat → Nat) : Prop := sn ≤ 100 ∧ n ≤ 100 ∧ ∀ j, j < n → fn j ≤ 60 ∧ rn j ≤ 60

section
variable {w w' : World} {B : Nat} {SA : Option Addr} {sn : Nat} {S : Nat → Int} {CA : Option Addr} {n : Nat} {no hr wi : Nat → Int} {FA : Nat → Option Addr} {fn fc : Nat → Nat} {F : Nat → Nat → Int} {RA : Nat → Option Addr} {rn rc : Nat → Nat} {R : Nat → Nat → Int}
theorem RdK.below (h : RdK w B SA sn S CA n no hr wi FA fn fc F RA rn rc R) (hb : Below B w w') : RdK w' B SA sn S CA n no hr wi FA fn fc F RA rn rc R :=
  ⟨h.1.below hb, h.2.1.below hb, fun j hj => ⟨(h.2.2 j hj).1.below hb, (h.2.2 j hj).2.below hb⟩⟩
theorem RdK.mono {B' : Nat} (h : RdK w B SA sn S CA n no hr wi FA fn fc F RA rn rc R) (hB : B ≤ B') : RdK w B' SA sn S CA n no hr wi FA fn fc F RA rn rc R :=
  ⟨h.1.mono hB, h.2.1.mono hB, fun j hj => ⟨(h.2.2 j hj).1.mono hB, (h.2.2 j hj).2.mono hB⟩⟩
theorem RdK.drewN (h : RdK w B SA sn S CA n no hr wi FA fn fc F RA rn rc R) (k : Nat) : RdK (w.drewN k) B SA sn S CA n no hr wi FA fn fc F RA rn rc R := h
/-- a side -/
theorem RdK.side (h : RdK w B SA sn S CA n no hr wi FA fn fc F RA rn rc R) {k : Nat} (hk : k < sn) : ∃ b off, SA = some ⟨b, off, none⟩ ∧ b < B ∧ w.cell? ⟨b, off + k, none⟩ = some (.int .i64 (S k)) := by
  obtain ⟨b, off, e, hb, hc⟩ := h.1 (by omega)
  exact ⟨b, off, e, hb, hc k hk⟩
/-- a case -/
theorem RdK.at_ (h : RdK w B SA sn S CA n no hr wi FA fn fc F RA rn rc R) {j : Nat} (hj : j < n) : ∃ b off, CA = some ⟨b, off, none⟩ ∧ b < B ∧ w.cell? ⟨b, off + j * 5, none⟩ = some (.int .i64 (no j)) ∧ w.cell? ⟨b, off + j * 5 + 1, none⟩ = some (.int .i64 (hr j)) ∧
    w.cell? ⟨b, off + j * 5 + 2, none⟩ = some (.int .i64 (wi j)) ∧ w.cell? ⟨b, off + j * 5 + 3, none⟩ = some (.slice (FA j) (fn j) (fc j)) ∧ w.cell? ⟨b, off + j * 5 + 4, none⟩ = some (.slice (RA j) (rn j) (rc j)) := by
  obtain ⟨b, off, e, hb, hc⟩ := h.2.1 (by omega)
  refine ⟨b, off, e, hb, ?_, ?_, ?_, ?_, ?_⟩
  · rw [hc (j * 5) (by omega), csc_0]
  · rw [Nat.add_assoc, hc (j * 5 + 1) (by omega), csc_1]
  · rw [Nat.add_assoc, hc (j * 5 + 2) (by omega), csc_2]
  · rw [Nat.add_assoc, hc (j * 5 + 3) (by omega), csc_3]
  · rw [Nat.add_assoc, hc (j * 5 + 4) (by omega), csc_4]
theorem RdK.here {b off : Nat} (h : RdK w B SA sn S (some ⟨b, off, none⟩) n no hr wi FA fn fc F RA rn rc R) {j : Nat} (hj : j < n) : w.cell? ⟨b, off + j * 5, none⟩ = some (.int .i64 (no j)) ∧ w.cell? ⟨b, off + j * 5 + 1, none⟩ = some (.int .i64 (hr j)) ∧
    w.cell? ⟨b, off + j * 5 + 2, none⟩ = some (.int .i64 (wi j)) ∧ w.cell? ⟨b, off + j * 5 + 3, none⟩ = some (.slice (FA j) (fn j) (fc j)) ∧ w.cell? ⟨b, off + j * 5 + 4, none⟩ = some (.slice (RA j) (rn j) (rc j)) := by
  obtain ⟨b', off', e, _, hc⟩ := h.at_ hj
  cases e
  exact hc
end

/-- are the sides right? -/
def sidB (S : Nat → Int) : Nat → Bool
  | 0 => true
  | k + 1 => sidB S k && inB 1 (S k)
theorem sidB_bad {S : Nat → Int} {k : Nat} (h : inB 1 (S k) = false) : ∀ n, k < n → sidB S n = false
  | 0, hn => absurd hn (by omega)
  | n + 1, hn => by
    by_cases e : k = n
    · subst e; simp [sidB, h]
    · simp [sidB, sidB_bad h n (by omega)]
theorem sidB_at {S : Nat → Int} : ∀ n, sidB S n = true → ∀ k, k < n → 0 ≤ S k ∧ S k ≤ 1
  | 0, _, k, hk => absurd hk (by omega)
  | n + 1, h, k, hk => by
    simp only [sidB, Bool.and_eq_true] at h
    by_cases e : k = n
    · subst e; exact inB_iff.1 h.2
    · exact sidB_at n h.1 k (by omega)
/-- the numbers of a case are right -/
def numB (no hr wi : Nat → Int) (j : Nat) : Bool := (inB 1048576 (no j) && inB 4096 (hr j)) && inB 1 (wi j)
/-- it comes behind the one before -/
def ordB (no hr : Nat → Int) (j : Nat) : Bool := decide (j = 0) || (decide (no (j - 1) < no j) && decide (hr (j - 1) ≤ hr j))
/-- a case is right -/
def casB (S : Nat → Int) (sn : Nat) (no hr wi : Nat → Int) (fn : Nat → Nat) (F : Nat → Nat → Int) (rn : Nat → Nat) (R : Nat → Nat → Int) (j : Nat) : Bool :=
  (numB no hr wi j && ordB no hr j) && (okS sn (F j) (fn j) && reaB S sn (F j) (fn j) (R j) (rn j) (wi j))
def casN (S : Nat → Int) (sn : Nat) (no hr wi : Nat → Int) (fn : Nat → Nat) (F : Nat → Nat → Int) (rn : Nat → Nat) (R : Nat → Nat → Int) : Nat → Bool
  | 0 => true
  | j + 1 => casN S sn no hr wi fn F rn R j && casB S sn no hr wi fn F rn R j
section
variable {S : Nat → Int} {sn : Nat} {no hr wi : Nat → Int} {fn : Nat → Nat} {F : Nat → Nat → Int} {rn : Nat → Nat} {R : Nat → Nat → Int}
theorem casN_bad {j : Nat} (h : casB S sn no hr wi fn F rn R j = false) : ∀ n, j < n → casN S sn no hr wi fn F rn R n = false
  | 0, hn => absurd hn (by omega)
  | n + 1, hn => by
    by_cases e : j = n
    · subst e; simp [casN, h]
    · simp [casN, casN_bad h n (by omega)]
theorem casN_at : ∀ n, casN S sn no hr wi fn F rn R n = true → ∀ j, j < n → casB S sn no hr wi fn F rn R j = true
  | 0, _, j, hj => absurd hj (by omega)
  | n + 1, h, j, hj => by
    simp only [casN, Bool.and_eq_true] at h
    by_cases e : j = n
    · subst e; exact h.2
    · exact casN_at n h.1 j (by omega)
theorem casN_of (n : Nat) (h : ∀ j, j < n → casB S sn no hr wi fn F rn R j = true) : casN S sn no hr wi fn F rn R n = true := by
  induction n with
  | zero => rfl
  | succ n ih => rw [casN, ih (fun j hj => h j (by omega)), h n (by omega)]; rfl
/-- what a right case is -/
theorem casB_facts {j : Nat} (h : casB S sn no hr wi fn F rn R j = true) : ((0 ≤ no j ∧ no j ≤ 1048576) ∧ (0 ≤ hr j ∧ hr j ≤ 4096) ∧ (0 ≤ wi j ∧ wi j ≤ 1)) ∧ (j = 0 ∨ no (j - 1) < no j ∧ hr (j - 1) ≤ hr j) ∧ okS sn (F j) (fn j) = true ∧ okS sn (R j) (rn j) = true ∧ allB (R j) (F j) (fn j) (rn j) = true ∧ sideB S (R j) (wi j) (rn j) = true := by
  simp only [casB, numB, ordB, reaB, Bool.and_eq_true, Bool.or_eq_true, decide_eq_true_eq, inB_iff] at h
  obtain ⟨⟨⟨⟨h1, h2⟩, h3⟩, h4⟩, h5, ⟨h6, h7⟩, h8⟩ := h
  exact ⟨⟨h1, h2, h3⟩, h4, h5, h6, h7, h8⟩
end
/-- the error of Check -/
def chkE (S : Nat → Int) (sn n : Nat) (no hr wi : Nat → Int) (fn : Nat → Nat) (F : Nat → Nat → Int) (rn : Nat → Nat) (R : Nat → Nat → Int) : Int :=
  if 32 < sn ∨ 64 < n then 2 else if sidB S sn = true ∧ casN S sn no hr wi fn F rn R n = true then 0 else 520
end Go.Proofs.Ytbojjhdcmogjdaa
