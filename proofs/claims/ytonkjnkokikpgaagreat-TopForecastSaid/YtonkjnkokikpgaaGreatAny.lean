/- Contracts of slices.IndexFunc and slices.ContainsFunc. -/
import Derived.Test.YtonkjnkokikpgaaGreatSame
import Derived.Shelf.Abstract
namespace Go.Proofs.YtonkjnkokikpgaaGreat
open Go.RowKit

/-- is it so at one of the first n places? -/
def anyB (p : Nat → Bool) : Nat → Bool
  | 0 => false
  | n + 1 => anyB p n || p n
theorem anyB_false {p : Nat → Bool} : ∀ {n : Nat}, anyB p n = false ↔ ∀ j, j < n → p j = false
  | 0 => ⟨fun _ j hj => absurd hj (by omega), fun _ => rfl⟩
  | n + 1 => by
    rw [anyB, Bool.or_eq_false_iff, anyB_false]
    constructor
    · rintro ⟨h1, h2⟩ j hj
      by_cases e : j = n
      · subst e; exact h2
      · exact h1 j (by omega)
    · exact fun h => ⟨fun j hj => h j (by omega), h n (by omega)⟩
theorem anyB_true {p : Nat → Bool} {n j : Nat} (hj : j < n) (h : p j = true) : anyB p n = true := by
  cases e : anyB p n
  · have := anyB_false.1 e j hj
    rw [h] at this
    cases this
  · rfl
/-- what a function answers at each element -/
def Answers (w : World) (g : Nat) (lb : Array Value) (v : Nat → Value) (n : Nat) (p : Nat → Bool) : Prop :=
  ∀ j, j < n → ∀ W, Below w.heap.size w W → Calls Tryz.prog g (#[v j] ++ lb) W fun e w' => e = .returned (.bool (p j)) ∧ Below W.heap.size W w'
/-- the cells of past forecasts: three each -/
def pcc (bd : Nat → Int) (rA : Nat → Option Addr) (rn rc : Nat → Nat) (sA : Nat → Option Addr) (sn sc : Nat → Nat) (j : Nat) : Value :=
  if j % 3 = 0 then .int .i64 (bd (j / 3)) else if j % 3 = 1 then .slice (rA (j / 3)) (rn (j / 3)) (rc (j / 3)) else .slice (sA (j / 3)) (sn (j / 3)) (sc (j / 3))
section
variable (bd : Nat → Int) (rA : Nat → Option Addr) (rn rc : Nat → Nat) (sA : Nat → Option Addr) (sn sc : Nat → Nat) (j : Nat)
theorem pcc_0 : pcc bd rA rn rc sA sn sc (j * 3) = .int .i64 (bd j) := by
  unfold pcc; rw [if_pos (by omega), show j * 3 / 3 = j by omega]
theorem pcc_1 : pcc bd rA rn rc sA sn sc (j * 3 + 1) = .slice (rA j) (rn j) (rc j) := by
  unfold pcc; rw [if_neg (by omega), if_pos (by omega), show (j * 3 + 1) / 3 = j by omega]
theorem pcc_2 : pcc bd rA rn rc sA sn sc (j * 3 + 2) = .slice (sA j) (sn j) (sc j) := by
  unfold pcc; rw [if_neg (by omega), if_neg (by omega), show (j * 3 + 2) / 3 = j by omega]
end
theorem pcc_at {w : World} {B : Nat} {A : Option Addr} {n : Nat} {bd : Nat → Int} {rA : Nat → Option Addr} {rn rc : Nat → Nat} {sA : Nat → Option Addr} {sn sc : Nat → Nat} (h : Rd w B A (n * 3) (pcc bd rA rn rc sA sn sc)) {j : Nat} (hj : j < n) :
    ∃ b off, A = some ⟨b, off, none⟩ ∧ b < B ∧ w.cell? ⟨b, off + j * 3, none⟩ = some (.int .i64 (bd j)) ∧ w.cell? ⟨b, off + j * 3 + 1, none⟩ = some (.slice (rA j) (rn j) (rc j)) ∧ w.cell? ⟨b, off + j * 3 + 2, none⟩ = some (.slice (sA j) (sn j) (sc j)) := by
  obtain ⟨b, off, e, hb, hc⟩ := h (by omega)
  refine ⟨b, off, e, hb, ?_, ?_, ?_⟩
  · rw [hc (j * 3) (by omega), pcc_0]
  · rw [Nat.add_assoc, hc (j * 3 + 1) (by omega), pcc_1]
  · rw [Nat.add_assoc, hc (j * 3 + 2) (by omega), pcc_2]

set_option maxRecDepth 100000 in
set_option maxHeartbeats 4000000 in
theorem idx_50 (A : Option Addr) (n c B g : Nat) (lb : Array Value) (rA : Nat → Option Addr) (rn rc : Nat → Nat) (p : Nat → Bool) (w : World) (eg : ∀ args w, (callFunc g args).run Tryz.prog w = .ok (.enter g args) w) (hn : n ≤ 9223372036854775807) (hB : B ≤ w.heap.size) (hr : Rd w B A n (fun j => .slice (rA j) (rn j) (rc j)))
    (hp : Answers w g lb (fun j => .slice (rA j) (rn j) (rc j)) n p) :
    Calls Tryz.prog 50 #[.slice A n c, .func (.func g) #[] lb] w fun e w' => (∃ r : Int, e = .returned (.int .i64 r) ∧ (anyB p n = true → 0 ≤ r) ∧ (anyB p n = false → r = -1)) ∧ Below w.heap.size w w' := by
  have HR := Lib.hid hr
  have HP := Lib.hid hp
  clear hr hp
  go_enter Tryz.func50, Tryz.ntmps50
  go_wp2_with fail
  go_loopw [8] (fun i wr => ∃ k : Nat, k ≤ n ∧ i = .int .i64 k ∧ Hid (anyB p k = false) ∧ Below w.heap.size w wr) (fun i _ => n - (intOf i).toNat)
  case atStart => exact ⟨0, Nat.zero_le _, rfl, Lib.hid rfl, Below.refl _ _⟩
  case round =>
    obtain ⟨k, hk, rfl, HN, hb⟩ := hrel
    have HD := Lib.hid hb
    clear hb
    by_cases hlt : ¬ k < n
    · have hlt' : ¬ (k : Int) < n := by omega
      have hkn : k = n := by omega
      have HN2 : Hid (anyB p n = false) := Lib.hid (hkn ▸ HN.out)
      go_wp2_with fail
      go_ret
      exact ⟨⟨-1, rfl, fun h => (by rw [HN2.out] at h; cases h), fun _ => rfl⟩, HD.out⟩
    · have hlt : k < n := by omega
      have hlt' : (k : Int) < n := by omega
      have HC : Hid (Calls Tryz.prog g (#[.slice (rA k) (rn k) (rc k)] ++ lb) wr fun e w' => e = .returned (.bool (p k)) ∧ Below wr.heap.size wr w') := Lib.hid (HP.out k hlt wr HD.out)
      obtain ⟨b, o, rfl, _, hc⟩ := (HR.out.below (HD.out.mono hB)) (by omega)
      have c0 : wr.cell? ⟨b, o + k, none⟩ = some (.slice (rA k) (rn k) (rc k)) := hc k hlt
      clear hc
      generalize rA k = x0 at *
      generalize rn k = x1 at *
      generalize rc k = x2 at *
      generalize hq : p k = q at HC
      have HQ := Lib.hid hq
      clear hq
      cases q
      · go_wp2_with (go_at_fn g; refine HC.out.mono ?_; rintro e w' ⟨rfl, hb⟩; have HD2 := Lib.hid (HD.out.trans (hb.mono HD.out.size)); clear hb)
        go_roundw
        case rel => exact ⟨k + 1, by omega, by go_num, Lib.hid (by rw [anyB, HN.out, HQ.out]; rfl), HD2.out⟩
        case measure => simp [intOf]; omega
      · go_wp2_with (go_at_fn g; refine HC.out.mono ?_; rintro e w' ⟨rfl, hb⟩; have HD2 := Lib.hid (HD.out.trans (hb.mono HD.out.size)); clear hb)
        go_ret
        exact ⟨⟨k, rfl, fun _ => by omega, fun h => (by rw [anyB_true hlt HQ.out] at h; cases h)⟩, HD2.out⟩

set_option maxRecDepth 100000 in
set_option maxHeartbeats 4000000 in
theorem any_22 (A : Option Addr) (n c B g : Nat) (lb : Array Value) (rA : Nat → Option Addr) (rn rc : Nat → Nat) (p : Nat → Bool) (w : World) (eg : ∀ args w, (callFunc g args).run Tryz.prog w = .ok (.enter g args) w) (hn : n ≤ 9223372036854775807) (hB : B ≤ w.heap.size) (hr : Rd w B A n (fun j => .slice (rA j) (rn j) (rc j)))
    (hp : Answers w g lb (fun j => .slice (rA j) (rn j) (rc j)) n p) :
    Calls Tryz.prog 22 #[.slice A n c, .func (.func g) #[] lb] w fun e w' => e = .returned (.bool (anyB p n)) ∧ Below w.heap.size w w' := by
  have HC := Lib.hid (idx_50 A n c B g lb rA rn rc p w eg hn hB hr hp)
  clear hr hp eg
  go_enter Tryz.func22, Tryz.ntmps22
  go_wp2_with fail
  refine HC.out.mono ?_
  rintro e w' ⟨⟨r, rfl, h1, h2⟩, hb⟩
  have HB := Lib.hid hb
  clear hb HC
  cases h : anyB p n
  · obtain rfl := h2 h
    have H := Lib.hid h
    clear h1 h2 h
    go_wp2_with fail
    go_ret
    exact ⟨ret_bool H.out.symm, HB.out⟩
  · have h0 := h1 h
    have h0d : decide (0 ≤ r) = true := by simpa using h0
    have H := Lib.hid h
    clear h1 h2 h
    go_wp2_with fail
    go_ret
    exact ⟨ret_bool H.out.symm, HB.out⟩

set_option maxRecDepth 100000 in
set_option maxHeartbeats 4000000 in
theorem idx_51 (A : Option Addr) (n c B g : Nat) (lb : Array Value) (f : Nat → Int × Int) (p : Nat → Bool) (w : World) (eg : ∀ args w, (callFunc g args).run Tryz.prog w = .ok (.enter g args) w) (hn : n ≤ 9223372036854775807) (hB : B ≤ w.heap.size) (hr : Rd w B A (n * 2) (rsc f))
    (hp : Answers w g lb (fun j => .agg #[.int .i64 (f j).1, .int .i64 (f j).2]) n p) :
    Calls Tryz.prog 51 #[.slice A n c, .func (.func g) #[] lb] w fun e w' => (∃ r : Int, e = .returned (.int .i64 r) ∧ (anyB p n = true → 0 ≤ r) ∧ (anyB p n = false → r = -1)) ∧ Below w.heap.size w w' := by
  have HR := Lib.hid hr
  have HP := Lib.hid hp
  clear hr hp
  go_enter Tryz.func51, Tryz.ntmps51
  go_wp2_with fail
  go_loopw [8] (fun i wr => ∃ k : Nat, k ≤ n ∧ i = .int .i64 k ∧ Hid (anyB p k = false) ∧ Below w.heap.size w wr) (fun i _ => n - (intOf i).toNat)
  case atStart => exact ⟨0, Nat.zero_le _, rfl, Lib.hid rfl, Below.refl _ _⟩
  case round =>
    obtain ⟨k, hk, rfl, HN, hb⟩ := hrel
    have HD := Lib.hid hb
    clear hb
    by_cases hlt : ¬ k < n
    · have hlt' : ¬ (k : Int) < n := by omega
      have hkn : k = n := by omega
      have HN2 : Hid (anyB p n = false) := Lib.hid (hkn ▸ HN.out)
      go_wp2_with fail
      go_ret
      exact ⟨⟨-1, rfl, fun h => (by rw [HN2.out] at h; cases h), fun _ => rfl⟩, HD.out⟩
    · have hlt : k < n := by omega
      have hlt' : (k : Int) < n := by omega
      have HC : Hid (Calls Tryz.prog g (#[.agg #[.int .i64 (f k).1, .int .i64 (f k).2]] ++ lb) wr fun e w' => e = .returned (.bool (p k)) ∧ Below wr.heap.size wr w') := Lib.hid (HP.out k hlt wr HD.out)
      obtain ⟨b, o, rfl, _, c0, c1⟩ := rng_at (HR.out.below (HD.out.mono hB)) hlt
      generalize (f k).1 = x0 at *
      generalize (f k).2 = x1 at *
      generalize hq : p k = q at HC
      have HQ := Lib.hid hq
      clear hq
      cases q
      · go_wp2_with (go_at_fn g; refine HC.out.mono ?_; rintro e w' ⟨rfl, hb⟩; have HD2 := Lib.hid (HD.out.trans (hb.mono HD.out.size)); clear hb)
        go_roundw
        case rel => exact ⟨k + 1, by omega, by go_num, Lib.hid (by rw [anyB, HN.out, HQ.out]; rfl), HD2.out⟩
        case measure => simp [intOf]; omega
      · go_wp2_with (go_at_fn g; refine HC.out.mono ?_; rintro e w' ⟨rfl, hb⟩; have HD2 := Lib.hid (HD.out.trans (hb.mono HD.out.size)); clear hb)
        go_ret
        exact ⟨⟨k, rfl, fun _ => by omega, fun h => (by rw [anyB_true hlt HQ.out] at h; cases h)⟩, HD2.out⟩

set_option maxRecDepth 100000 in
set_option maxHeartbeats 4000000 in
theorem any_24 (A : Option Addr) (n c B g : Nat) (lb : Array Value) (f : Nat → Int × Int) (p : Nat → Bool) (w : World) (eg : ∀ args w, (callFunc g args).run Tryz.prog w = .ok (.enter g args) w) (hn : n ≤ 9223372036854775807) (hB : B ≤ w.heap.size) (hr : Rd w B A (n * 2) (rsc f))
    (hp : Answers w g lb (fun j => .agg #[.int .i64 (f j).1, .int .i64 (f j).2]) n p) :
    Calls Tryz.prog 24 #[.slice A n c, .func (.func g) #[] lb] w fun e w' => e = .returned (.bool (anyB p n)) ∧ Below w.heap.size w w' := by
  have HC := Lib.hid (idx_51 A n c B g lb f p w eg hn hB hr hp)
  clear hr hp eg
  go_enter Tryz.func24, Tryz.ntmps24
  go_wp2_with fail
  refine HC.out.mono ?_
  rintro e w' ⟨⟨r, rfl, h1, h2⟩, hb⟩
  have HB := Lib.hid hb
  clear hb HC
  cases h : anyB p n
  · obtain rfl := h2 h
    have H := Lib.hid h
    clear h1 h2 h
    go_wp2_with fail
    go_ret
    exact ⟨ret_bool H.out.symm, HB.out⟩
  · have h0 := h1 h
    have h0d : decide (0 ≤ r) = true := by simpa using h0
    have H := Lib.hid h
    clear h1 h2 h
    go_wp2_with fail
    go_ret
    exact ⟨ret_bool H.out.symm, HB.out⟩

set_option maxRecDepth 100000 in
set_option maxHeartbeats 4000000 in
theorem idx_82 (A : Option Addr) (n c B g : Nat) (lb : Array Value) (bd : Nat → Int) (rA : Nat → Option Addr) (rn rc : Nat → Nat) (sA : Nat → Option Addr) (sn sc : Nat → Nat) (p : Nat → Bool) (w : World) (eg : ∀ args w, (callFunc g args).run Tryz.prog w = .ok (.enter g args) w) (hn : n ≤ 9223372036854775807) (hB : B ≤ w.heap.size) (hr : Rd w B A (n * 3) (pcc bd rA rn rc sA sn sc))
    (hp : Answers w g lb (fun j => .agg #[.int .i64 (bd j), .slice (rA j) (rn j) (rc j), .slice (sA j) (sn j) (sc j)]) n p) :
    Calls Tryz.prog 82 #[.slice A n c, .func (.func g) #[] lb] w fun e w' => (∃ r : Int, e = .returned (.int .i64 r) ∧ (anyB p n = true → 0 ≤ r) ∧ (anyB p n = false → r = -1)) ∧ Below w.heap.size w w' := by
  have HR := Lib.hid hr
  have HP := Lib.hid hp
  clear hr hp
  go_enter Tryz.func82, Tryz.ntmps82
  go_wp2_with fail
  go_loopw [8] (fun i wr => ∃ k : Nat, k ≤ n ∧ i = .int .i64 k ∧ Hid (anyB p k = false) ∧ Below w.heap.size w wr) (fun i _ => n - (intOf i).toNat)
  case atStart => exact ⟨0, Nat.zero_le _, rfl, Lib.hid rfl, Below.refl _ _⟩
  case round =>
    obtain ⟨k, hk, rfl, HN, hb⟩ := hrel
    have HD := Lib.hid hb
    clear hb
    by_cases hlt : ¬ k < n
    · have hlt' : ¬ (k : Int) < n := by omega
      have hkn : k = n := by omega
      have HN2 : Hid (anyB p n = false) := Lib.hid (hkn ▸ HN.out)
      go_wp2_with fail
      go_ret
      exact ⟨⟨-1, rfl, fun h => (by rw [HN2.out] at h; cases h), fun _ => rfl⟩, HD.out⟩
    · have hlt : k < n := by omega
      have hlt' : (k : Int) < n := by omega
      have HC : Hid (Calls Tryz.prog g (#[.agg #[.int .i64 (bd k), .slice (rA k) (rn k) (rc k), .slice (sA k) (sn k) (sc k)]] ++ lb) wr fun e w' => e = .returned (.bool (p k)) ∧ Below wr.heap.size wr w') := Lib.hid (HP.out k hlt wr HD.out)
      obtain ⟨b, o, rfl, _, c0, c1, c2⟩ := pcc_at (HR.out.below (HD.out.mono hB)) hlt
      generalize bd k = y0 at *
      generalize rA k = y1 at *
      generalize rn k = y2 at *
      generalize rc k = y3 at *
      generalize sA k = y4 at *
      generalize sn k = y5 at *
      generalize sc k = y6 at *
      generalize hq : p k = q at HC
      have HQ := Lib.hid hq
      clear hq
      cases q
      · go_wp2_with (go_at_fn g; refine HC.out.mono ?_; rintro e w' ⟨rfl, hb⟩; have HD2 := Lib.hid (HD.out.trans (hb.mono HD.out.size)); clear hb)
        go_roundw
        case rel => exact ⟨k + 1, by omega, by go_num, Lib.hid (by rw [anyB, HN.out, HQ.out]; rfl), HD2.out⟩
        case measure => simp [intOf]; omega
      · go_wp2_with (go_at_fn g; refine HC.out.mono ?_; rintro e w' ⟨rfl, hb⟩; have HD2 := Lib.hid (HD.out.trans (hb.mono HD.out.size)); clear hb)
        go_ret
        exact ⟨⟨k, rfl, fun _ => by omega, fun h => (by rw [anyB_true hlt HQ.out] at h; cases h)⟩, HD2.out⟩

set_option maxRecDepth 100000 in
set_option maxHeartbeats 4000000 in
theorem any_64 (A : Option Addr) (n c B g : Nat) (lb : Array Value) (bd : Nat → Int) (rA : Nat → Option Addr) (rn rc : Nat → Nat) (sA : Nat → Option Addr) (sn sc : Nat → Nat) (p : Nat → Bool) (w : World) (eg : ∀ args w, (callFunc g args).run Tryz.prog w = .ok (.enter g args) w) (hn : n ≤ 9223372036854775807) (hB : B ≤ w.heap.size) (hr : Rd w B A (n * 3) (pcc bd rA rn rc sA sn sc))
    (hp : Answers w g lb (fun j => .agg #[.int .i64 (bd j), .slice (rA j) (rn j) (rc j), .slice (sA j) (sn j) (sc j)]) n p) :
    Calls Tryz.prog 64 #[.slice A n c, .func (.func g) #[] lb] w fun e w' => e = .returned (.bool (anyB p n)) ∧ Below w.heap.size w w' := by
  have HC := Lib.hid (idx_82 A n c B g lb bd rA rn rc sA sn sc p w eg hn hB hr hp)
  clear hr hp eg
  go_enter Tryz.func64, Tryz.ntmps64
  go_wp2_with fail
  refine HC.out.mono ?_
  rintro e w' ⟨⟨r, rfl, h1, h2⟩, hb⟩
  have HB := Lib.hid hb
  clear hb HC
  cases h : anyB p n
  · obtain rfl := h2 h
    have H := Lib.hid h
    clear h1 h2 h
    go_wp2_with fail
    go_ret
    exact ⟨ret_bool H.out.symm, HB.out⟩
  · have h0 := h1 h
    have h0d : decide (0 ≤ r) = true := by simpa using h0
    have H := Lib.hid h
    clear h1 h2 h
    go_wp2_with fail
    go_ret
    exact ⟨ret_bool H.out.symm, HB.out⟩

set_option maxRecDepth 100000 in
set_option maxHeartbeats 4000000 in
theorem idx_83 (A : Option Addr) (n c B g : Nat) (lb : Array Value) (f : Nat → Int) (p : Nat → Bool) (w : World) (eg : ∀ args w, (callFunc g args).run Tryz.prog w = .ok (.enter g args) w) (hn : n ≤ 9223372036854775807) (hB : B ≤ w.heap.size) (hr : Rd w B A n (fun j => .int .i64 (f j)))
    (hp : Answers w g lb (fun j => .int .i64 (f j)) n p) :
    Calls Tryz.prog 83 #[.slice A n c, .func (.func g) #[] lb] w fun e w' => (∃ r : Int, e = .returned (.int .i64 r) ∧ (anyB p n = true → 0 ≤ r) ∧ (anyB p n = false → r = -1)) ∧ Below w.heap.size w w' := by
  have HR := Lib.hid hr
  have HP := Lib.hid hp
  clear hr hp
  go_enter Tryz.func83, Tryz.ntmps83
  go_wp2_with fail
  go_loopw [8] (fun i wr => ∃ k : Nat, k ≤ n ∧ i = .int .i64 k ∧ Hid (anyB p k = false) ∧ Below w.heap.size w wr) (fun i _ => n - (intOf i).toNat)
  case atStart => exact ⟨0, Nat.zero_le _, rfl, Lib.hid rfl, Below.refl _ _⟩
  case round =>
    obtain ⟨k, hk, rfl, HN, hb⟩ := hrel
    have HD := Lib.hid hb
    clear hb
    by_cases hlt : ¬ k < n
    · have hlt' : ¬ (k : Int) < n := by omega
      have hkn : k = n := by omega
      have HN2 : Hid (anyB p n = false) := Lib.hid (hkn ▸ HN.out)
      go_wp2_with fail
      go_ret
      exact ⟨⟨-1, rfl, fun h => (by rw [HN2.out] at h; cases h), fun _ => rfl⟩, HD.out⟩
    · have hlt : k < n := by omega
      have hlt' : (k : Int) < n := by omega
      have HC : Hid (Calls Tryz.prog g (#[.int .i64 (f k)] ++ lb) wr fun e w' => e = .returned (.bool (p k)) ∧ Below wr.heap.size wr w') := Lib.hid (HP.out k hlt wr HD.out)
      obtain ⟨b, o, rfl, _, hc⟩ := (HR.out.below (HD.out.mono hB)) (by omega)
      have c0 : wr.cell? ⟨b, o + k, none⟩ = some (.int .i64 (f k)) := hc k hlt
      clear hc
      generalize f k = x0 at *
      generalize hq : p k = q at HC
      have HQ := Lib.hid hq
      clear hq
      cases q
      · go_wp2_with (go_at_fn g; refine HC.out.mono ?_; rintro e w' ⟨rfl, hb⟩; have HD2 := Lib.hid (HD.out.trans (hb.mono HD.out.size)); clear hb)
        go_roundw
        case rel => exact ⟨k + 1, by omega, by go_num, Lib.hid (by rw [anyB, HN.out, HQ.out]; rfl), HD2.out⟩
        case measure => simp [intOf]; omega
      · go_wp2_with (go_at_fn g; refine HC.out.mono ?_; rintro e w' ⟨rfl, hb⟩; have HD2 := Lib.hid (HD.out.trans (hb.mono HD.out.size)); clear hb)
        go_ret
        exact ⟨⟨k, rfl, fun _ => by omega, fun h => (by rw [anyB_true hlt HQ.out] at h; cases h)⟩, HD2.out⟩

set_option maxRecDepth 100000 in
set_option maxHeartbeats 4000000 in
theorem any_66 (A : Option Addr) (n c B g : Nat) (lb : Array Value) (f : Nat → Int) (p : Nat → Bool) (w : World) (eg : ∀ args w, (callFunc g args).run Tryz.prog w = .ok (.enter g args) w) (hn : n ≤ 9223372036854775807) (hB : B ≤ w.heap.size) (hr : Rd w B A n (fun j => .int .i64 (f j)))
    (hp : Answers w g lb (fun j => .int .i64 (f j)) n p) :
    Calls Tryz.prog 66 #[.slice A n c, .func (.func g) #[] lb] w fun e w' => e = .returned (.bool (anyB p n)) ∧ Below w.heap.size w w' := by
  have HC := Lib.hid (idx_83 A n c B g lb f p w eg hn hB hr hp)
  clear hr hp eg
  go_enter Tryz.func66, Tryz.ntmps66
  go_wp2_with fail
  refine HC.out.mono ?_
  rintro e w' ⟨⟨r, rfl, h1, h2⟩, hb⟩
  have HB := Lib.hid hb
  clear hb HC
  cases h : anyB p n
  · obtain rfl := h2 h
    have H := Lib.hid h
    clear h1 h2 h
    go_wp2_with fail
    go_ret
    exact ⟨ret_bool H.out.symm, HB.out⟩
  · have h0 := h1 h
    have h0d : decide (0 ≤ r) = true := by simpa using h0
    have H := Lib.hid h
    clear h1 h2 h
    go_wp2_with fail
    go_ret
    exact ⟨ret_bool H.out.symm, HB.out⟩

set_option maxRecDepth 100000 in
set_option maxHeartbeats 4000000 in
theorem idx_98 (A : Option Addr) (n c B g : Nat) (lb : Array Value) (rA : Nat → Option Addr) (rn rc : Nat → Nat) (p : Nat → Bool) (w : World) (eg : ∀ args w, (callFunc g args).run Tryz.prog w = .ok (.enter g args) w) (hn : n ≤ 9223372036854775807) (hB : B ≤ w.heap.size) (hr : Rd w B A n (fun j => .slice (rA j) (rn j) (rc j)))
    (hp : Answers w g lb (fun j => .slice (rA j) (rn j) (rc j)) n p) :
    Calls Tryz.prog 98 #[.slice A n c, .func (.func g) #[] lb] w fun e w' => (∃ r : Int, e = .returned (.int .i64 r) ∧ (anyB p n = true → 0 ≤ r) ∧ (anyB p n = false → r = -1)) ∧ Below w.heap.size w w' := by
  have HR := Lib.hid hr
  have HP := Lib.hid hp
  clear hr hp
  go_enter Tryz.func98, Tryz.ntmps98
  go_wp2_with fail
  go_loopw [8] (fun i wr => ∃ k : Nat, k ≤ n ∧ i = .int .i64 k ∧ Hid (anyB p k = false) ∧ Below w.heap.size w wr) (fun i _ => n - (intOf i).toNat)
  case atStart => exact ⟨0, Nat.zero_le _, rfl, Lib.hid rfl, Below.refl _ _⟩
  case round =>
    obtain ⟨k, hk, rfl, HN, hb⟩ := hrel
    have HD := Lib.hid hb
    clear hb
    by_cases hlt : ¬ k < n
    · have hlt' : ¬ (k : Int) < n := by omega
      have hkn : k = n := by omega
      have HN2 : Hid (anyB p n = false) := Lib.hid (hkn ▸ HN.out)
      go_wp2_with fail
      go_ret
      exact ⟨⟨-1, rfl, fun h => (by rw [HN2.out] at h; cases h), fun _ => rfl⟩, HD.out⟩
    · have hlt : k < n := by omega
      have hlt' : (k : Int) < n := by omega
      have HC : Hid (Calls Tryz.prog g (#[.slice (rA k) (rn k) (rc k)] ++ lb) wr fun e w' => e = .returned (.bool (p k)) ∧ Below wr.heap.size wr w') := Lib.hid (HP.out k hlt wr HD.out)
      obtain ⟨b, o, rfl, _, hc⟩ := (HR.out.below (HD.out.mono hB)) (by omega)
      have c0 : wr.cell? ⟨b, o + k, none⟩ = some (.slice (rA k) (rn k) (rc k)) := hc k hlt
      clear hc
      generalize rA k = x0 at *
      generalize rn k = x1 at *
      generalize rc k = x2 at *
      generalize hq : p k = q at HC
      have HQ := Lib.hid hq
      clear hq
      cases q
      · go_wp2_with (go_at_fn g; refine HC.out.mono ?_; rintro e w' ⟨rfl, hb⟩; have HD2 := Lib.hid (HD.out.trans (hb.mono HD.out.size)); clear hb)
        go_roundw
        case rel => exact ⟨k + 1, by omega, by go_num, Lib.hid (by rw [anyB, HN.out, HQ.out]; rfl), HD2.out⟩
        case measure => simp [intOf]; omega
      · go_wp2_with (go_at_fn g; refine HC.out.mono ?_; rintro e w' ⟨rfl, hb⟩; have HD2 := Lib.hid (HD.out.trans (hb.mono HD.out.size)); clear hb)
        go_ret
        exact ⟨⟨k, rfl, fun _ => by omega, fun h => (by rw [anyB_true hlt HQ.out] at h; cases h)⟩, HD2.out⟩

set_option maxRecDepth 100000 in
set_option maxHeartbeats 4000000 in
theorem any_78 (A : Option Addr) (n c B g : Nat) (lb : Array Value) (rA : Nat → Option Addr) (rn rc : Nat → Nat) (p : Nat → Bool) (w : World) (eg : ∀ args w, (callFunc g args).run Tryz.prog w = .ok (.enter g args) w) (hn : n ≤ 9223372036854775807) (hB : B ≤ w.heap.size) (hr : Rd w B A n (fun j => .slice (rA j) (rn j) (rc j)))
    (hp : Answers w g lb (fun j => .slice (rA j) (rn j) (rc j)) n p) :
    Calls Tryz.prog 78 #[.slice A n c, .func (.func g) #[] lb] w fun e w' => e = .returned (.bool (anyB p n)) ∧ Below w.heap.size w w' := by
  have HC := Lib.hid (idx_98 A n c B g lb rA rn rc p w eg hn hB hr hp)
  clear hr hp eg
  go_enter Tryz.func78, Tryz.ntmps78
  go_wp2_with fail
  refine HC.out.mono ?_
  rintro e w' ⟨⟨r, rfl, h1, h2⟩, hb⟩
  have HB := Lib.hid hb
  clear hb HC
  cases h : anyB p n
  · obtain rfl := h2 h
    have H := Lib.hid h
    clear h1 h2 h
    go_wp2_with fail
    go_ret
    exact ⟨ret_bool H.out.symm, HB.out⟩
  · have h0 := h1 h
    have h0d : decide (0 ≤ r) = true := by simpa using h0
    have H := Lib.hid h
    clear h1 h2 h
    go_wp2_with fail
    go_ret
    exact ⟨ret_bool H.out.symm, HB.out⟩
end Go.Proofs.YtonkjnkokikpgaaGreat
