/- Past forecasts: words; contracts of calibrate's in, right and Check. Ensembles: words; contract of ensembles.Check. Contract of calibrate.Check. Contract of calibrate.keeps. -/
import Derived.Test.YtonkjnkokikpgaaGreatAny
import Derived.Test.YtonkjnkokikpgaaGreatSame
namespace Go.Proofs.YtonkjnkokikpgaaGreat
open Go.RowKit

/-- past forecasts: bodies, bounds and what was seen -/
structure PastF where
  bd : Nat → Int
  rA : Nat → Option Addr
  rn : Nat → Nat
  rc : Nat → Nat
  sA : Nat → Option Addr
  sn : Nat → Nat
  sc : Nat → Nat
  rf : Nat → Nat → Int × Int
  sv : Nat → Nat → Int
def PastF.cells (p : PastF) : Nat → Value := pcc p.bd p.rA p.rn p.rc p.sA p.sn p.sc
/-- they lie in memory -/
def PastRd (w : World) (B : Nat) (A : Option Addr) (n : Nat) (p : PastF) : Prop :=
  Rd w B A (n * 3) p.cells ∧ ∀ j, j < n → (Rd w B (p.rA j) (p.rn j * 2) (rsc (p.rf j)) ∧ p.rn j ≤ 9223372036854775807) ∧ Rd w B (p.sA j) (p.sn j) (fun i => .int .i64 (p.sv j i)) ∧ p.sn j ≤ 9223372036854775807
theorem PastRd.below {w w' : World} {B : Nat} {A : Option Addr} {n : Nat} {p : PastF} (h : PastRd w B A n p) (hb : Below B w w') : PastRd w' B A n p :=
  ⟨h.1.below hb, fun j hj => ⟨⟨(h.2 j hj).1.1.below hb, (h.2 j hj).1.2⟩, (h.2 j hj).2.1.below hb, (h.2 j hj).2.2⟩⟩
theorem PastRd.mono {w : World} {B B' : Nat} {A : Option Addr} {n : Nat} {p : PastF} (h : PastRd w B A n p) (hB : B ≤ B') : PastRd w B' A n p :=
  ⟨h.1.mono hB, fun j hj => ⟨⟨(h.2 j hj).1.1.mono hB, (h.2 j hj).1.2⟩, (h.2 j hj).2.1.mono hB, (h.2 j hj).2.2⟩⟩
/-- are ranges right? -/
def rgB (n : Nat) (f : Nat → Int × Int) : Bool := ri3 1 n 16 && !anyB (fun j => !ri4 0 (f j).1 (f j).2 1099511627776) n
/-- is a forecast wrong? -/
def pbB (p : PastF) (j : Nat) : Bool := ((!ri3 0 (p.bd j) 63 || !rgB (p.rn j) (p.rf j)) || decide ((p.sn j : Int) ≠ (p.rn j : Int))) || anyB (fun i => !ri3 0 (p.sv j i) 1099511627776) (p.sn j)
def plB (p : PastF) (j : Nat) : Bool := decide ((16 : Int) < max (p.rn j : Int) (p.sn j : Int))
/-- the error of Check -/
def pastE (n : Nat) (p : PastF) : Int := if (decide (256 < (n : Int)) || anyB (plB p) n) = true then 2 else if anyB (pbB p) n = true then 370 else 0
/-- right forecasts -/
def PGood (n : Nat) (p : PastF) : Prop := n ≤ 256 ∧ ∀ j, j < n → (0 ≤ p.bd j ∧ p.bd j ≤ 63) ∧ (1 ≤ p.rn j ∧ p.rn j ≤ 16) ∧ p.sn j = p.rn j ∧ (∀ i, i < p.rn j → 0 ≤ (p.rf j i).1 ∧ (p.rf j i).1 ≤ (p.rf j i).2 ∧ (p.rf j i).2 ≤ 1099511627776) ∧ ∀ i, i < p.sn j → 0 ≤ p.sv j i ∧ p.sv j i ≤ 1099511627776
theorem rgB_iff {n : Nat} {f : Nat → Int × Int} : rgB n f = true ↔ (1 ≤ n ∧ n ≤ 16) ∧ ∀ i, i < n → 0 ≤ (f i).1 ∧ (f i).1 ≤ (f i).2 ∧ (f i).2 ≤ 1099511627776 := by
  unfold rgB
  rw [Bool.and_eq_true, ri3_iff, Bool.not_eq_true', anyB_false]
  constructor
  · rintro ⟨h1, h2⟩
    refine ⟨by omega, fun i hi => ?_⟩
    have := h2 i hi
    rw [Bool.not_eq_false', ri4_iff] at this
    exact this
  · rintro ⟨h1, h2⟩
    refine ⟨by omega, fun i hi => ?_⟩
    rw [Bool.not_eq_false', ri4_iff]
    exact h2 i hi
theorem pastE_iff {n : Nat} {p : PastF} : pastE n p = 0 ↔ PGood n p := by
  unfold pastE
  by_cases h1 : (decide (256 < (n : Int)) || anyB (plB p) n) = true
  · rw [if_pos h1]
    refine ⟨fun h => absurd h (by decide), fun h => ?_⟩
    rw [Bool.or_eq_true, decide_eq_true_eq] at h1
    rcases h1 with h1 | h1
    · have := h.1; omega
    · have h3 : anyB (plB p) n = false := anyB_false.2 fun j hj => by
        have := h.2 j hj
        unfold plB
        rw [decide_eq_false_iff_not]
        omega
      rw [h1] at h3
      cases h3
  · rw [if_neg h1]
    rw [Bool.not_eq_true, Bool.or_eq_false_iff, decide_eq_false_iff_not] at h1
    by_cases h2 : anyB (pbB p) n = true
    · rw [if_pos h2]
      refine ⟨fun h => absurd h (by decide), fun h => ?_⟩
      have h3 : anyB (pbB p) n = false := anyB_false.2 fun j hj => by
        obtain ⟨g1, g2, g3, g4, g5⟩ := h.2 j hj
        unfold pbB
        rw [Bool.or_eq_false_iff, Bool.or_eq_false_iff, Bool.or_eq_false_iff]
        refine ⟨⟨⟨?_, ?_⟩, ?_⟩, ?_⟩
        · rw [Bool.not_eq_false', ri3_iff]; exact g1
        · rw [Bool.not_eq_false', rgB_iff]; exact ⟨g2, g4⟩
        · rw [decide_eq_false_iff_not]; omega
        · exact anyB_false.2 fun i hi => by rw [Bool.not_eq_false', ri3_iff]; exact g5 i hi
      rw [h2] at h3
      cases h3
    · rw [if_neg h2]
      rw [Bool.not_eq_true, anyB_false] at h2
      refine ⟨fun _ => ⟨by omega, fun j hj => ?_⟩, fun _ => rfl⟩
      have h3 := h2 j hj
      unfold pbB at h3
      rw [Bool.or_eq_false_iff, Bool.or_eq_false_iff, Bool.or_eq_false_iff] at h3
      obtain ⟨⟨⟨a1, a2⟩, a3⟩, a4⟩ := h3
      rw [Bool.not_eq_false', ri3_iff] at a1
      rw [Bool.not_eq_false', rgB_iff] at a2
      rw [decide_eq_false_iff_not] at a3
      refine ⟨a1, a2.1, by omega, a2.2, fun i hi => ?_⟩
      have := anyB_false.1 a4 i hi
      rw [Bool.not_eq_false', ri3_iff] at this
      exact this

set_option maxRecDepth 100000 in
theorem in_43 (a l h : Int) (w : World) : Calls Tryz.prog 43 #[.int .i64 a, .int .i64 l, .int .i64 h] w fun e w' => e = .returned (.bool (ri3 l a h)) ∧ w = w' := by
  go_enter Tryz.func43, Tryz.ntmps43
  by_cases h1 : l ≤ a
  · have h1d : decide (l ≤ a) = true := by simpa using h1
    go_wp2_with fail
    go_ret
    exact ⟨ret_bool (by unfold ri3; rw [h1d]; simp), rfl⟩
  · have h1d : decide (l ≤ a) = false := by simpa using h1
    go_wp2_with fail
    go_ret
    exact ⟨ret_bool (by unfold ri3; rw [h1d]; simp), rfl⟩

set_option maxRecDepth 100000 in
theorem clos_63 (l h : Int) (w : World) : Calls Tryz.prog 63 #[.agg #[.int .i64 l, .int .i64 h]] w fun e w' => e = .returned (.bool (!ri4 0 l h 1099511627776)) ∧ Below w.heap.size w w' := by
  obtain ⟨w0, hw0⟩ : ∃ zz, zz = w.alloc (.cells #[.int .i64 l, .int .i64 h] 53) := ⟨_, rfl⟩
  have HK0 : Hid (Blk w0 w.heap.size 53 #[.int .i64 l, .int .i64 h]) := Lib.hid (hw0 ▸ Blk.new _ _ _)
  have HB0 : Hid (Below w.heap.size w w0) := Lib.hid (hw0 ▸ below_alloc _ _)
  have c0 : w0.cell? ⟨w.heap.size, 0, none⟩ = some (.int .i64 l) := HK0.out.cell 0
  have c1 : w0.cell? ⟨w.heap.size, 1, none⟩ = some (.int .i64 h) := HK0.out.cell 1
  have HW := Lib.hid hw0
  clear hw0
  go_enter Tryz.func63, Tryz.ntmps63
  go_upto_region 1 with fail
  rw [← HW.out]
  clear HW
  by_cases h1 : l < 0
  · have h1d : decide (l < 0) = true := by simpa using h1
    have H1 : Hid ((!ri4 0 l h 1099511627776) = true) := Lib.hid (by rw [Bool.not_eq_true', ← Bool.not_eq_true, ri4_iff]; omega)
    go_wp2_with fail
    go_ret
    exact ⟨ret_bool H1.out.symm, HB0.out⟩
  have h1d : decide (l < 0) = false := by simpa using h1
  by_cases h2 : h < l
  · have h2d : decide (h < l) = true := by simpa using h2
    have H1 : Hid ((!ri4 0 l h 1099511627776) = true) := Lib.hid (by rw [Bool.not_eq_true', ← Bool.not_eq_true, ri4_iff]; omega)
    go_wp2_with fail
    go_ret
    exact ⟨ret_bool H1.out.symm, HB0.out⟩
  have h2d : decide (h < l) = false := by simpa using h2
  by_cases h3 : 1099511627776 < h
  · have h3d : decide (1099511627776 < h) = true := by simpa using h3
    have H1 : Hid ((!ri4 0 l h 1099511627776) = true) := Lib.hid (by rw [Bool.not_eq_true', ← Bool.not_eq_true, ri4_iff]; omega)
    go_wp2_with fail
    go_ret
    exact ⟨ret_bool H1.out.symm, HB0.out⟩
  · have h3d : decide (1099511627776 < h) = false := by simpa using h3
    have H1 : Hid ((!ri4 0 l h 1099511627776) = false) := Lib.hid (by rw [Bool.not_eq_false', ri4_iff]; omega)
    go_wp2_with fail
    go_ret
    exact ⟨ret_bool H1.out.symm, HB0.out⟩

theorem eg_63 : ∀ args w, (callFunc 63 args).run Tryz.prog w = .ok (.enter 63 args) w := enters_of Tryz.func63 (by kernel_rfl) rfl
theorem eg_65 : ∀ args w, (callFunc 65 args).run Tryz.prog w = .ok (.enter 65 args) w := enters_of Tryz.func65 (by kernel_rfl) rfl
theorem eg_67 : ∀ args w, (callFunc 67 args).run Tryz.prog w = .ok (.enter 67 args) w := enters_of Tryz.func67 (by kernel_rfl) rfl
set_option maxRecDepth 100000 in
set_option maxHeartbeats 4000000 in
theorem right_42 (A : Option Addr) (n c B : Nat) (f : Nat → Int × Int) (w : World) (hn : n ≤ 9223372036854775807) (hB : B ≤ w.heap.size) (hr : Rd w B A (n * 2) (rsc f)) :
    Calls Tryz.prog 42 #[.slice A n c] w fun e w' => e = .returned (.bool (rgB n f)) ∧ Below w.heap.size w w' := by
  have HA := Lib.hid (any_24 A n c B 63 #[] f (fun j => !ri4 0 (f j).1 (f j).2 1099511627776) w eg_63 hn hB hr (fun j _ W _ => clos_63 (f j).1 (f j).2 W))
  clear hr
  have HV : Hid (rgB n f = (ri3 1 n 16 && !anyB (fun j => !ri4 0 (f j).1 (f j).2 1099511627776) n)) := Lib.hid rfl
  generalize anyB (fun j => !ri4 0 (f j).1 (f j).2 1099511627776) n = a at HA HV
  generalize rgB n f = v at HV ⊢
  go_enter Tryz.func42, Tryz.ntmps42
  go_wp2_with fail
  refine (in_43 _ _ _ _).mono ?_
  rintro e w' ⟨rfl, rfl⟩
  generalize ri3 1 (n : Int) 16 = q at HV ⊢
  cases q
  · go_wp2_with fail
    go_ret
    exact ⟨ret_bool (by rw [HV.out]; rfl), Below.refl _ _⟩
  · go_wp2_with fail
    refine HA.out.mono ?_
    rintro e w' ⟨rfl, hb⟩
    have HB := Lib.hid hb
    clear hb
    go_wp2_with fail
    go_ret
    exact ⟨ret_bool (by rw [HV.out]; simp), HB.out⟩

set_option maxRecDepth 100000 in
theorem clos_65 (bd : Int) (rA sA : Option Addr) (rn rc sn sc : Nat) (w : World) : Calls Tryz.prog 65 #[.agg #[.int .i64 bd, .slice rA rn rc, .slice sA sn sc]] w fun e w' => e = .returned (.bool (decide ((16 : Int) < max (rn : Int) (sn : Int)))) ∧ Below w.heap.size w w' := by
  obtain ⟨w0, hw0⟩ : ∃ zz, zz = w.alloc (.cells #[.int .i64 bd, .slice rA rn rc, .slice sA sn sc] 49) := ⟨_, rfl⟩
  have HK0 : Hid (Blk w0 w.heap.size 49 #[.int .i64 bd, .slice rA rn rc, .slice sA sn sc]) := Lib.hid (hw0 ▸ Blk.new _ _ _)
  have HB0 : Hid (Below w.heap.size w w0) := Lib.hid (hw0 ▸ below_alloc _ _)
  have c1 : w0.cell? ⟨w.heap.size, 1, none⟩ = some (.slice rA rn rc) := HK0.out.cell 1
  have c2 : w0.cell? ⟨w.heap.size, 2, none⟩ = some (.slice sA sn sc) := HK0.out.cell 2
  have c2' : w0.cell? ⟨w.heap.size, 1 + 1, none⟩ = some (.slice sA sn sc) := HK0.out.cell 2
  have HW := Lib.hid hw0
  clear hw0
  go_enter Tryz.func65, Tryz.ntmps65
  go_upto_region 1 with fail
  rw [← HW.out]
  clear HW
  by_cases h1 : (rn : Int) < (sn : Int)
  · have H1 : Hid (max (rn : Int) (sn : Int) = sn) := Lib.hid (by omega)
    go_wp2_with fail
    go_ret
    exact ⟨ret_bool (by rw [H1.out]), HB0.out⟩
  · have H1 : Hid (max (rn : Int) (sn : Int) = rn) := Lib.hid (by omega)
    go_wp2_with fail
    go_ret
    exact ⟨ret_bool (by rw [H1.out]), HB0.out⟩

set_option maxRecDepth 100000 in
theorem clos_67 (x : Int) (w : World) : Calls Tryz.prog 67 #[.int .i64 x] w fun e w' => e = .returned (.bool (!ri3 0 x 1099511627776)) ∧ Below w.heap.size w w' := by
  go_enter Tryz.func67, Tryz.ntmps67
  go_wp2_with fail
  refine (in_43 _ _ _ _).mono ?_
  rintro e w' ⟨rfl, rfl⟩
  go_wp2_with fail
  go_ret
  exact ⟨rfl, Below.refl _ _⟩
end Go.Proofs.YtonkjnkokikpgaaGreat
namespace Go.Proofs.YtonkjnkokikpgaaGreat
open Go.RowKit

/-- the members of an ensemble -/
structure EnsF where
  mA : Nat → Option Addr
  ml : Nat → Nat
  mc : Nat → Nat
  mv : Nat → Nat → Int
def EnsRd (w : World) (B : Nat) (A : Option Addr) (n : Nat) (x : EnsF) : Prop :=
  Rd w B A n (fun j => .slice (x.mA j) (x.ml j) (x.mc j)) ∧ ∀ j, j < n → Rd w B (x.mA j) (x.ml j) (fun i => .int .i64 (x.mv j i)) ∧ x.ml j ≤ 9223372036854775807
theorem EnsRd.below {w w' : World} {B : Nat} {A : Option Addr} {n : Nat} {x : EnsF} (h : EnsRd w B A n x) (hb : Below B w w') : EnsRd w' B A n x :=
  ⟨h.1.below hb, fun j hj => ⟨(h.2 j hj).1.below hb, (h.2 j hj).2⟩⟩
theorem EnsRd.mono {w : World} {B B' : Nat} {A : Option Addr} {n : Nat} {x : EnsF} (h : EnsRd w B A n x) (hB : B ≤ B') : EnsRd w B' A n x :=
  ⟨h.1.mono hB, fun j hj => ⟨(h.2 j hj).1.mono hB, (h.2 j hj).2⟩⟩
/-- members of one length -/
def EGood (n : Nat) (x : EnsF) : Prop := (1 ≤ n ∧ n ≤ 64) ∧ (1 ≤ x.ml 0 ∧ x.ml 0 ≤ 16) ∧ ∀ j, j < n → x.ml j = x.ml 0
/-- an ensemble that is right -/
def EFull (bd mk : Int) (n : Nat) (x : EnsF) : Prop := EGood n x ∧ (0 ≤ bd ∧ bd ≤ 63) ∧ (0 ≤ mk ∧ mk ≤ 1099511627776) ∧ ∀ j, j < n → ∀ i, i < x.ml j → 0 ≤ x.mv j i ∧ x.mv j i ≤ 1073741824

set_option maxRecDepth 100000 in
theorem clos_79 (A : Option Addr) (n c : Nat) (w : World) : Calls Tryz.prog 79 #[.slice A n c] w fun e w' => e = .returned (.bool (decide (16 < (n : Int)))) ∧ Below w.heap.size w w' := by
  go_enter Tryz.func79, Tryz.ntmps79
  go_wp2_with fail
  go_ret
  exact ⟨rfl, Below.refl _ _⟩
set_option maxRecDepth 100000 in
theorem clos_80 (x : Int) (w : World) : Calls Tryz.prog 80 #[.int .i64 x] w fun e w' => e = .returned (.bool (decide (x < 0) || decide (1073741824 < x))) ∧ Below w.heap.size w w' := by
  go_enter Tryz.func80, Tryz.ntmps80
  by_cases h : x < 0
  · have hd : decide (x < 0) = true := by simpa using h
    go_wp2_with fail
    go_ret
    exact ⟨ret_bool (by first | rfl | (rw [hd]; rfl)), Below.refl _ _⟩
  · have hd : decide (x < 0) = false := by simpa using h
    go_wp2_with fail
    go_ret
    exact ⟨ret_bool (by first | rfl | (rw [hd]; rfl)), Below.refl _ _⟩
theorem eg_79 : ∀ args w, (callFunc 79 args).run Tryz.prog w = .ok (.enter 79 args) w := enters_of Tryz.func79 (by kernel_rfl) rfl
theorem eg_80 : ∀ args w, (callFunc 80 args).run Tryz.prog w = .ok (.enter 80 args) w := enters_of Tryz.func80 (by kernel_rfl) rfl

set_option maxRecDepth 100000 in
set_option maxHeartbeats 4000000 in
theorem Check_60 (bd mk : Int) (A : Option Addr) (n c B : Nat) (x : EnsF) (w : World) (hn : n ≤ 9223372036854775807) (hB : B ≤ w.heap.size) (hr : EnsRd w B A n x) :
    Calls Tryz.prog 60 #[.agg #[.int .i64 bd, .int .i64 mk, .slice A n c]] w fun e w' => (∃ E : Int, e = .returned (.int .i64 E) ∧ (E = 0 ↔ EFull bd mk n x)) ∧ Below w.heap.size w w' := by
  have HR := Lib.hid hr
  have HNZ : Hid (∀ (E : Int), E ≠ 0 → ¬ EFull bd mk n x → ∃ E' : Int, Ending.returned (.int .i64 E) = .returned (.int .i64 E') ∧ (E' = 0 ↔ EFull bd mk n x)) := Lib.hid fun E hE hX => ⟨E, rfl, fun h => absurd h hE, fun h => absurd h hX⟩
  obtain ⟨w0, hw0⟩ : ∃ zz, zz = w.alloc (.cells #[.int .i64 bd, .int .i64 mk, .slice A n c] 40) := ⟨_, rfl⟩
  have HK0 : Hid (Blk w0 w.heap.size 40 #[.int .i64 bd, .int .i64 mk, .slice A n c]) := Lib.hid (hw0 ▸ Blk.new _ _ _)
  have HB0 : Hid (Below w.heap.size w w0) := Lib.hid (hw0 ▸ below_alloc _ _)
  have HA := Lib.hid (any_78 A n c B 79 #[] x.mA x.ml x.mc (fun j => decide (16 < (x.ml j : Int))) w0 eg_79 hn (by have := HB0.out.size; omega) (hr.1.below (HB0.out.mono hB)) (fun j _ W _ => clos_79 (x.mA j) (x.ml j) (x.mc j) W))
  have HW := Lib.hid hw0
  clear hw0 hr
  have k0 : w0.cell? ⟨w.heap.size, 0, none⟩ = some (.int .i64 bd) := HK0.out.cell 0
  have k1 : w0.cell? ⟨w.heap.size, 1, none⟩ = some (.int .i64 mk) := HK0.out.cell 1
  have k2 : w0.cell? ⟨w.heap.size, 2, none⟩ = some (.slice A n c) := HK0.out.cell 2
  have k2' : w0.cell? ⟨w.heap.size, 1 + 1, none⟩ = some (.slice A n c) := HK0.out.cell 2
  go_enter Tryz.func60, Tryz.ntmps60
  go_upto_region 1 with fail
  rw [← HW.out]
  clear HW
  by_cases h1 : 64 < (n : Int)
  · have h1d : decide (64 < (n : Int)) = true := by simpa using h1
    have HX : Hid (¬ EFull bd mk n x) := Lib.hid fun h => by have := h.1.1.2; omega
    clear h1
    go_wp2_with fail
    go_ret
    exact ⟨HNZ.out 2 (by decide) HX.out, HB0.out⟩
  have h1d : decide (64 < (n : Int)) = false := by simpa using h1
  have h64 : n ≤ 64 := by omega
  clear h1
  go_wp2_with fail
  refine HA.out.mono ?_
  rintro e w1 ⟨rfl, hb⟩
  have HB1 := Lib.hid (HB0.out.trans (hb.mono HB0.out.size))
  have HK1 := Lib.hid (HK0.out.below hb HK0.out.lt)
  clear hb HA HB0 HK0 k0 k1 k2 k2'
  cases ha : anyB (fun j => decide (16 < (x.ml j : Int))) n
  case true =>
    have HX : Hid (¬ EFull bd mk n x) := Lib.hid fun h => by
      have h1 : anyB (fun j => decide (16 < (x.ml j : Int))) n = false := anyB_false.2 fun j hj => by
        have h2 := h.1.2.2 j hj
        have h3 := h.1.2.1
        rw [decide_eq_false_iff_not]
        omega
      rw [h1] at ha
      cases ha
    clear ha
    go_wp2_with fail
    go_ret
    exact ⟨HNZ.out 2 (by decide) HX.out, HB1.out⟩
  have HML : Hid (∀ j, j < n → x.ml j ≤ 16) := Lib.hid fun j hj => by have := anyB_false.1 ha j hj; rw [decide_eq_false_iff_not] at this; omega
  clear ha
  have k0 : w1.cell? ⟨w.heap.size, 0, none⟩ = some (.int .i64 bd) := HK1.out.cell 0
  have k1 : w1.cell? ⟨w.heap.size, 1, none⟩ = some (.int .i64 mk) := HK1.out.cell 1
  have k2 : w1.cell? ⟨w.heap.size, 2, none⟩ = some (.slice A n c) := HK1.out.cell 2
  have k2' : w1.cell? ⟨w.heap.size, 1 + 1, none⟩ = some (.slice A n c) := HK1.out.cell 2
  by_cases h2 : bd < 0
  · have hd : decide (bd < 0) = true := by simpa using h2
    have HX : Hid (¬ EFull bd mk n x) := Lib.hid fun h => by have := h.2.1; omega
    clear h2
    go_wp2_with fail
    go_ret
    exact ⟨HNZ.out 360 (by decide) HX.out, HB1.out⟩
  have h2d : decide (bd < 0) = false := by simpa using h2
  have HYh2d : Hid (0 ≤ bd) := Lib.hid (by omega)
  clear h2
  by_cases h2 : 63 < bd
  · have hd : decide (63 < bd) = true := by simpa using h2
    have HX : Hid (¬ EFull bd mk n x) := Lib.hid fun h => by have := h.2.1; omega
    clear h2
    go_wp2_with fail
    go_ret
    exact ⟨HNZ.out 360 (by decide) HX.out, HB1.out⟩
  have h3d : decide (63 < bd) = false := by simpa using h2
  have HYh3d : Hid (bd ≤ 63) := Lib.hid (by omega)
  clear h2
  by_cases h2 : mk < 0
  · have hd : decide (mk < 0) = true := by simpa using h2
    have HX : Hid (¬ EFull bd mk n x) := Lib.hid fun h => by have := h.2.2.1; omega
    clear h2
    go_wp2_with fail
    go_ret
    exact ⟨HNZ.out 360 (by decide) HX.out, HB1.out⟩
  have h4d : decide (mk < 0) = false := by simpa using h2
  have HYh4d : Hid (0 ≤ mk) := Lib.hid (by omega)
  clear h2
  by_cases h2 : 1099511627776 < mk
  · have hd : decide (1099511627776 < mk) = true := by simpa using h2
    have HX : Hid (¬ EFull bd mk n x) := Lib.hid fun h => by have := h.2.2.1; omega
    clear h2
    go_wp2_with fail
    go_ret
    exact ⟨HNZ.out 360 (by decide) HX.out, HB1.out⟩
  have h5d : decide (1099511627776 < mk) = false := by simpa using h2
  have HYh5d : Hid (mk ≤ 1099511627776) := Lib.hid (by omega)
  clear h2
  by_cases h2 : n = 0
  · subst h2
    have hd : (((0 : Nat) : Int) == 0) = true := by decide
    have HX : Hid (¬ EFull bd mk 0 x) := Lib.hid fun h => by have := h.1.1.1; omega
    go_wp2_with fail
    go_ret
    exact ⟨HNZ.out 360 (by decide) HX.out, HB1.out⟩
  have h6d : ((n : Int) == 0) = false := by simpa using h2
  have hn0 : 0 < n := by omega
  have hn0' : (0 : Int) < (n : Int) := by omega
  have hnn0 : (n : Int) ≠ 0 := by omega
  clear h2
  have hz1 := HB1.out.size
  obtain ⟨b, o, e0, _, hc⟩ := (HR.out.below (HB1.out.mono hB)).1 hn0
  subst e0
  have q0 : w1.cell? ⟨b, o, none⟩ = some (.slice (x.mA 0) (x.ml 0) (x.mc 0)) := hc 0 hn0
  clear hc
  by_cases h2 : x.ml 0 = 0
  · have hd : ((x.ml 0 : Int) == 0) = true := by simpa using h2
    have hd2 : (x.ml 0 : Int) = 0 := by omega
    have HX : Hid (¬ EFull bd mk n x) := Lib.hid fun h => by have := h.1.2.1.1; omega
    clear h2
    go_wp2_with fail
    go_ret
    exact ⟨HNZ.out 360 (by decide) HX.out, HB1.out⟩
  have h7d : ((x.ml 0 : Int) == 0) = false := by simpa using h2
  have hl0 : 1 ≤ x.ml 0 := by omega
  have hl0' : (x.ml 0 : Int) ≠ 0 := by omega
  clear h2
  go_wp2_with fail
  clear q0 k0 k1 k2 k2'
  go_loopw [49] (fun i wr => ∃ k : Nat, k ≤ n ∧ i = .int .i64 k ∧ Hid (∀ j, j < k → x.ml j = x.ml 0 ∧ ∀ i, i < x.ml j → 0 ≤ x.mv j i ∧ x.mv j i ≤ 1073741824) ∧ Below w1.heap.size w1 wr) (fun i _ => n - (intOf i).toNat)
  case atStart => exact ⟨0, Nat.zero_le _, rfl, Lib.hid (fun j hj => absurd hj (by omega)), Below.refl _ _⟩
  case round =>
    obtain ⟨k, hk, rfl, HN, hb⟩ := hrel
    have HD := Lib.hid hb
    have HBr := Lib.hid (HB1.out.trans (hb.mono hz1))
    have HKr := Lib.hid (HK1.out.below hb HK1.out.lt)
    clear hb
    by_cases hlt : ¬ k < n
    · have hlt' : ¬ (k : Int) < n := by omega
      have hkn : k = n := by omega
      have H1 : Hid (EFull bd mk n x) := Lib.hid ⟨⟨⟨by omega, h64⟩, ⟨hl0, HML.out 0 hn0⟩, fun j hj => (HN.out j (by omega)).1⟩, ⟨HYh2d.out, HYh3d.out⟩, ⟨HYh4d.out, HYh5d.out⟩, fun j hj => (HN.out j (by omega)).2⟩
      clear hkn
      go_wp2_with fail
      go_ret
      exact ⟨⟨0, rfl, fun _ => H1.out, fun _ => rfl⟩, HBr.out⟩
    have hlt : k < n := by omega
    have hlt' : (k : Int) < n := by omega
    have hER := HR.out.below (HBr.out.mono hB)
    have HSN : Hid (Calls Tryz.prog 66 #[.slice (x.mA k) (x.ml k) (x.mc k), .func (.func 80) #[] #[]] wr fun e w' => e = .returned (.bool (anyB (fun i => decide (x.mv k i < 0) || decide (1073741824 < x.mv k i)) (x.ml k))) ∧ Below wr.heap.size wr w') := Lib.hid (any_66 (x.mA k) (x.ml k) (x.mc k) B 80 #[] (x.mv k) (fun i => decide (x.mv k i < 0) || decide (1073741824 < x.mv k i)) wr eg_80 (hER.2 k hlt).2 (by have := HBr.out.size; omega) (hER.2 k hlt).1 (fun j _ W _ => clos_80 (x.mv k j) W))
    obtain ⟨b', o', e0, _, hc⟩ := hER.1 hn0
    injection e0 with e0
    injection e0 with e1 e2
    subst e1 e2
    have q0 : wr.cell? ⟨b, o, none⟩ = some (.slice (x.mA 0) (x.ml 0) (x.mc 0)) := hc 0 hn0
    have qk : wr.cell? ⟨b, o + k, none⟩ = some (.slice (x.mA k) (x.ml k) (x.mc k)) := hc k hlt
    have k2 : wr.cell? ⟨w.heap.size, 2, none⟩ = some (.slice (some ⟨b, o, none⟩) n c) := HKr.out.cell 2
    have k2' : wr.cell? ⟨w.heap.size, 1 + 1, none⟩ = some (.slice (some ⟨b, o, none⟩) n c) := HKr.out.cell 2
    clear hc hER
    have HV1 : Hid (anyB (fun i => decide (x.mv k i < 0) || decide (1073741824 < x.mv k i)) (x.ml k) = true → ¬ EFull bd mk n x) := Lib.hid fun h1 h => by
      have h2 : anyB (fun i => decide (x.mv k i < 0) || decide (1073741824 < x.mv k i)) (x.ml k) = false := anyB_false.2 fun i hi => by
        have h3 := h.2.2.2 k hlt i hi
        rw [Bool.or_eq_false_iff, decide_eq_false_iff_not, decide_eq_false_iff_not]
        omega
      rw [h2] at h1
      cases h1
    have HV2 : Hid (anyB (fun i => decide (x.mv k i < 0) || decide (1073741824 < x.mv k i)) (x.ml k) = false → ∀ i, i < x.ml k → 0 ≤ x.mv k i ∧ x.mv k i ≤ 1073741824) := Lib.hid fun h1 i hi => by
      have h2 := anyB_false.1 h1 i hi
      rw [Bool.or_eq_false_iff, decide_eq_false_iff_not, decide_eq_false_iff_not] at h2
      omega
    have HNE : Hid (¬ x.ml k = x.ml 0 → ¬ EFull bd mk n x) := Lib.hid fun h1 h => h1 (h.1.2.2 k hlt)
    generalize anyB (fun i => decide (x.mv k i < 0) || decide (1073741824 < x.mv k i)) (x.ml k) = a at HSN HV1 HV2
    have HNK : Hid (x.ml k = x.ml 0 → a = false → ∀ j, j < k + 1 → x.ml j = x.ml 0 ∧ ∀ i, i < x.ml j → 0 ≤ x.mv j i ∧ x.mv j i ≤ 1073741824) := Lib.hid fun h ha j hj => by
      by_cases e : j = k
      · subst e; exact ⟨h, HV2.out ha⟩
      · exact HN.out j (by omega)
    generalize x.mA k = y1 at *
    generalize hy2 : x.ml k = y2 at HSN HNK HNE qk
    clear HV2 hy2
    generalize x.mc k = y3 at *
    by_cases h3 : ¬ y2 = x.ml 0
    · have h3d : ((y2 : Int) != (x.ml 0 : Int)) = true := by simp; omega
      have HX := Lib.hid (HNE.out h3)
      clear h3
      go_wp2_with fail
      go_ret
      exact ⟨HNZ.out 360 (by decide) HX.out, HBr.out⟩
    have h3 : y2 = x.ml 0 := by omega
    have HNN := Lib.hid (HNK.out h3)
    have h3d : ((y2 : Int) != (x.ml 0 : Int)) = false := by simp; omega
    clear h3 HNK HNE
    go_wp2_with fail
    refine HSN.out.mono ?_
    rintro e w2 ⟨rfl, hb⟩
    have HD2 := Lib.hid (HD.out.trans (hb.mono HD.out.size))
    have HB2 := Lib.hid (HBr.out.trans (hb.mono HBr.out.size))
    clear hb q0 qk k2 k2'
    cases a
    · go_wp2_with fail
      go_roundw
      case rel => exact ⟨k + 1, by omega, by go_num, Lib.hid (HNN.out trivial), HD2.out⟩
      case measure => simp [intOf]; omega
    · have HX := Lib.hid (HV1.out rfl)
      go_wp2_with fail
      go_ret
      exact ⟨HNZ.out 360 (by decide) HX.out, HB2.out⟩
end Go.Proofs.YtonkjnkokikpgaaGreat
namespace Go.Proofs.YtonkjnkokikpgaaGreat
open Go.RowKit

set_option maxRecDepth 100000 in
set_option maxHeartbeats 4000000 in
theorem Check_44 (A : Option Addr) (n c B : Nat) (p : PastF) (w : World) (hn : n ≤ 9223372036854775807) (hB : B ≤ w.heap.size) (hr : PastRd w B A n p) :
    Calls Tryz.prog 44 #[.slice A n c] w fun e w' => e = .returned (.int .i64 (pastE n p)) ∧ Below w.heap.size w w' := by
  have HR := Lib.hid hr
  have HA := Lib.hid (any_64 A n c B 65 #[] p.bd p.rA p.rn p.rc p.sA p.sn p.sc (plB p) w eg_65 hn hB hr.1 (fun j _ W _ => clos_65 (p.bd j) (p.rA j) (p.sA j) (p.rn j) (p.rc j) (p.sn j) (p.sc j) W))
  have HV : Hid (pastE n p = if (decide (256 < (n : Int)) || anyB (plB p) n) = true then 2 else if anyB (pbB p) n = true then 370 else 0) := Lib.hid rfl
  clear hr
  generalize anyB (plB p) n = a at HA HV
  generalize pastE n p = v at HV ⊢
  go_enter Tryz.func44, Tryz.ntmps44
  by_cases h1 : 256 < (n : Int)
  · have h1d : decide (256 < (n : Int)) = true := by simpa using h1
    have H1 : Hid (v = 2) := Lib.hid (by rw [HV.out, h1d]; rfl)
    clear HV
    go_wp2_with fail
    go_ret
    exact ⟨ret_int H1.out.symm, Below.refl _ _⟩
  have h1d : decide (256 < (n : Int)) = false := by simpa using h1
  rw [h1d] at HV
  go_wp2_with fail
  refine HA.out.mono ?_
  rintro e w1 ⟨rfl, hb⟩
  have HB1 := Lib.hid hb
  clear hb HA
  cases a
  case true =>
    go_wp2_with fail
    go_ret
    exact ⟨ret_int HV.out.symm, HB1.out⟩
  have hz1 := HB1.out.size
  go_wp2_with fail
  go_loopw [14] (fun i wr => ∃ k : Nat, k ≤ n ∧ i = .int .i64 k ∧ Hid (anyB (pbB p) k = false) ∧ Below w1.heap.size w1 wr) (fun i _ => n - (intOf i).toNat)
  case atStart => exact ⟨0, Nat.zero_le _, rfl, Lib.hid rfl, Below.refl _ _⟩
  case round =>
    obtain ⟨k, hk, rfl, HN, hb⟩ := hrel
    have HD := Lib.hid hb
    have HBr := Lib.hid (HB1.out.trans (hb.mono hz1))
    have hzr := hb.size
    clear hb
    by_cases hlt : ¬ k < n
    · have hlt' : ¬ (k : Int) < n := by omega
      have hkn : k = n := by omega
      have H1 : Hid (v = 0) := Lib.hid (by rw [HV.out, ← hkn, HN.out]; rfl)
      go_wp2_with fail
      go_ret
      exact ⟨ret_int H1.out.symm, HBr.out⟩
    have hlt : k < n := by omega
    have hlt' : (k : Int) < n := by omega
    obtain ⟨⟨hr1, hr2⟩, hs1, hs2⟩ := (HR.out.below (HBr.out.mono hB)).2 k hlt
    have HBAD : Hid (pbB p k = true → v = 370) := Lib.hid fun h => by rw [HV.out, anyB_true hlt h]; rfl
    have HP : Hid (pbB p k = (((!ri3 0 (p.bd k) 63 || !rgB (p.rn k) (p.rf k)) || decide ((p.sn k : Int) ≠ (p.rn k : Int))) || anyB (fun i => !ri3 0 (p.sv k i) 1099511627776) (p.sn k))) := Lib.hid rfl
    have HN1 : Hid (pbB p k = false → anyB (pbB p) (k + 1) = false) := Lib.hid fun h => by rw [anyB, HN.out, h]; rfl
    have HRT : Hid (∀ W, Below wr.heap.size wr W → Calls Tryz.prog 42 #[.slice (p.rA k) (p.rn k) (p.rc k)] W fun e w' => e = .returned (.bool (rgB (p.rn k) (p.rf k))) ∧ Below W.heap.size W w') := Lib.hid fun W h => right_42 (p.rA k) (p.rn k) (p.rc k) B (p.rf k) W hr2 (by have := h.size; have := HB1.out.size; omega) (hr1.below (h.mono (by have := HB1.out.size; omega)))
    have HSN : Hid (∀ W, Below wr.heap.size wr W → Calls Tryz.prog 66 #[.slice (p.sA k) (p.sn k) (p.sc k), .func (.func 67) #[] #[]] W fun e w' => e = .returned (.bool (anyB (fun i => !ri3 0 (p.sv k i) 1099511627776) (p.sn k))) ∧ Below W.heap.size W w') := Lib.hid fun W h => any_66 (p.sA k) (p.sn k) (p.sc k) B 67 #[] (p.sv k) (fun i => !ri3 0 (p.sv k i) 1099511627776) W eg_67 hs2 (by have := h.size; have := HB1.out.size; omega) (hs1.below (h.mono (by have := HB1.out.size; omega))) (fun j _ W _ => clos_67 (p.sv k j) W)
    clear hr1 hr2 hs1 hs2
    have hcc := (HR.out.below (HBr.out.mono hB)).1
    unfold PastF.cells at hcc
    obtain ⟨b, o, rfl, _, c0, c1, c2⟩ := pcc_at hcc hlt
    clear hcc
    generalize pbB p k = bad at HBAD HP HN1
    generalize rgB (p.rn k) (p.rf k) = q2 at HRT HP
    generalize anyB (fun i => !ri3 0 (p.sv k i) 1099511627776) (p.sn k) = q4 at HSN HP
    generalize p.bd k = y0 at *
    generalize p.rA k = y1 at *
    generalize p.rn k = y2 at *
    generalize p.rc k = y3 at *
    generalize p.sA k = y4 at *
    generalize p.sn k = y5 at *
    generalize p.sc k = y6 at *
    go_upto_region 6 with fail
    obtain ⟨e1, he1⟩ : ∃ zz, zz = wr.alloc (.cells #[.int .i64 y0, .slice y1 y2 y3, .slice y4 y5 y6] 49) := ⟨_, rfl⟩
    have HX1 : Hid (Blk e1 wr.heap.size 49 #[.int .i64 y0, .slice y1 y2 y3, .slice y4 y5 y6]) := Lib.hid (he1 ▸ Blk.new _ _ _)
    have HE1 : Hid (Below wr.heap.size wr e1) := Lib.hid (he1 ▸ below_alloc _ _)
    rw [← he1]
    clear he1 c0 c1 c2
    have HB2 : Hid (∀ W, Below e1.heap.size e1 W → Below w.heap.size w W) := Lib.hid fun W h => HBr.out.trans ((HE1.out.trans (h.mono HE1.out.size)).mono HBr.out.size)
    have HB3 : Hid (∀ W, Below e1.heap.size e1 W → Below w1.heap.size w1 W) := Lib.hid fun W h => HD.out.trans ((HE1.out.trans (h.mono HE1.out.size)).mono hzr)
    have x0 : e1.cell? ⟨wr.heap.size, 0, none⟩ = some (.int .i64 y0) := HX1.out.cell 0
    have x1 : e1.cell? ⟨wr.heap.size, 1, none⟩ = some (.slice y1 y2 y3) := HX1.out.cell 1
    have x2 : e1.cell? ⟨wr.heap.size, 2, none⟩ = some (.slice y4 y5 y6) := HX1.out.cell 2
    have x2' : e1.cell? ⟨wr.heap.size, 1 + 1, none⟩ = some (.slice y4 y5 y6) := HX1.out.cell 2
    go_wp2_with fail
    refine (in_43 _ _ _ _).mono ?_
    rintro e u ⟨rfl, rfl⟩
    generalize hq1 : ri3 0 y0 63 = q1
    rw [hq1] at HP
    clear hq1
    cases q1
    · have H1 := Lib.hid (HBAD.out (by rw [HP.out]; rfl))
      go_wp2_with fail
      go_ret
      exact ⟨ret_int H1.out.symm, HB2.out _ (Below.refl _ _)⟩
    go_wp2_with fail
    refine (HRT.out e1 HE1.out).mono ?_
    rintro e e2 ⟨rfl, hb⟩
    have HE2 := Lib.hid hb
    have HX2 := Lib.hid (HX1.out.below hb HX1.out.lt)
    clear hb x0 x1 x2 x2' HX1
    cases q2
    · have H1 := Lib.hid (HBAD.out (by rw [HP.out]; rfl))
      go_wp2_with fail
      go_ret
      exact ⟨ret_int H1.out.symm, HB2.out _ HE2.out⟩
    have x1 : e2.cell? ⟨wr.heap.size, 1, none⟩ = some (.slice y1 y2 y3) := HX2.out.cell 1
    have x2 : e2.cell? ⟨wr.heap.size, 2, none⟩ = some (.slice y4 y5 y6) := HX2.out.cell 2
    have x2' : e2.cell? ⟨wr.heap.size, 1 + 1, none⟩ = some (.slice y4 y5 y6) := HX2.out.cell 2
    by_cases h3 : ¬ (y5 : Int) = (y2 : Int)
    · have h3d : ((y5 : Int) != (y2 : Int)) = true := by simpa using h3
      have h3e : ((y5 : Int) == (y2 : Int)) = false := by simpa using h3
      have H1 := Lib.hid (HBAD.out (by rw [HP.out, show decide ((y5 : Int) ≠ (y2 : Int)) = true by simpa using h3]; simp))
      clear h3
      go_wp2_with fail
      go_ret
      exact ⟨ret_int H1.out.symm, HB2.out _ HE2.out⟩
    have h3 : (y5 : Int) = (y2 : Int) := by omega
    have h3d : ((y5 : Int) != (y2 : Int)) = false := by simpa using h3
    have h3e : ((y5 : Int) == (y2 : Int)) = true := by simpa using h3
    have HP2 : Hid (bad = q4) := Lib.hid (by rw [HP.out, show decide ((y5 : Int) ≠ (y2 : Int)) = false by simpa using h3]; rfl)
    clear h3
    go_wp2_with fail
    refine (HSN.out e2 (HE1.out.trans (HE2.out.mono HE1.out.size))).mono ?_
    rintro e e3 ⟨rfl, hb⟩
    have HE3 := Lib.hid (HE2.out.trans (hb.mono HE2.out.size))
    clear hb x1 x2 x2'
    cases q4
    · have HN2 := Lib.hid (HN1.out HP2.out)
      go_wp2_with fail
      go_roundw
      case rel => exact ⟨k + 1, by omega, by go_num, HN2, HB3.out _ HE3.out⟩
      case measure => simp [intOf]; omega
    · have H1 := Lib.hid (HBAD.out HP2.out)
      go_wp2_with fail
      go_ret
      exact ⟨ret_int H1.out.symm, HB2.out _ HE3.out⟩
end Go.Proofs.YtonkjnkokikpgaaGreat
namespace Go.Proofs.YtonkjnkokikpgaaGreat
open Go.RowKit

/-- how many fail in the window that ends ahead of k -/
def cntE (e : Nat → Bool) (o : Nat) : Nat → Int
  | 0 => 0
  | k + 1 => cntE e o k + (if e k = true then 1 else 0) - (if o ≤ k ∧ e (k - o) = true then 1 else 0)
/-- does no window have more than fa failures? -/
def kpE (e : Nat → Bool) (o : Nat) (fa : Int) : Nat → Bool
  | 0 => true
  | k + 1 => kpE e o fa k && decide (cntE e o (k + 1) ≤ fa)
theorem cntE_bound (e : Nat → Bool) (o : Nat) : ∀ k : Nat, -(k : Int) ≤ cntE e o k ∧ cntE e o k ≤ k
  | 0 => by simp [cntE]
  | k + 1 => by
    have := cntE_bound e o k
    rw [cntE]
    split <;> split <;> omega
theorem cntE_congr {e f : Nat → Bool} (o : Nat) : ∀ k, (∀ j, j < k → e j = f j) → cntE e o k = cntE f o k
  | 0, _ => rfl
  | k + 1, h => by
    rw [cntE, cntE, cntE_congr o k fun j hj => h j (by omega), h k (by omega)]
    by_cases ho : o ≤ k ∧ 0 < o
    · rw [h (k - o) (by omega)]
    · by_cases h0 : o = 0
      · subst h0; rw [Nat.sub_zero, h k (by omega)]
      · have : ¬ o ≤ k := by omega
        simp [this]
theorem kpE_congr {e f : Nat → Bool} (o : Nat) (fa : Int) : ∀ k, (∀ j, j < k → e j = f j) → kpE e o fa k = kpE f o fa k
  | 0, _ => rfl
  | k + 1, h => by rw [kpE, kpE, kpE_congr o fa k fun j hj => h j (by omega), cntE_congr o (k + 1) h]
theorem cntE_none {e : Nat → Bool} (o : Nat) : ∀ k, (∀ j, j < k → e j = false) → cntE e o k = 0
  | 0, _ => rfl
  | k + 1, h => by
    rw [cntE, cntE_none o k fun j hj => h j (by omega), h k (by omega)]
    by_cases ho : o ≤ k
    · rw [h (k - o) (by omega)]; simp
    · simp [ho]
theorem kpE_none {e : Nat → Bool} (o : Nat) {fa : Int} (hfa : 0 ≤ fa) : ∀ k, (∀ j, j < k → e j = false) → kpE e o fa k = true
  | 0, _ => rfl
  | k + 1, h => by
    rw [kpE, kpE_none o hfa k fun j hj => h j (by omega), cntE_none o (k + 1) h]
    simpa using hfa

set_option maxRecDepth 100000 in
set_option maxHeartbeats 4000000 in
theorem count_49 (db mb nb L dc B : Nat) (D : Option Addr) (d : Nat → Int) (i by_ m x : Int) (w : World) (hi : i < L) (hx : -1099511627776 ≤ x + by_ ∧ x + by_ ≤ 1099511627776) (hd : Blk w db 36 #[.slice D L dc]) (hm : Blk w mb 3 #[.int .i64 m]) (hn : Blk w nb 3 #[.int .i64 x])
    (hr : Rd w B D L (fun j => .int .i64 (d j))) :
    Calls Tryz.prog 49 #[.int .i64 i, .int .i64 by_, .pointer (some ⟨db, 0, none⟩), .pointer (some ⟨mb, 0, none⟩), .pointer (some ⟨nb, 0, none⟩)] w fun e w' => e = .returned (.tuple #[]) ∧ Blk w' nb 3 #[.int .i64 (if 0 ≤ i ∧ m < d i.toNat then x + by_ else x)] ∧ Below nb w w' := by
  have HN := Lib.hid hn
  have d0 : w.cell? ⟨db, 0, none⟩ = some (.slice D L dc) := hd.cell 0
  have m0 : w.cell? ⟨mb, 0, none⟩ = some (.int .i64 m) := hm.cell 0
  have n0 : w.cell? ⟨nb, 0, none⟩ = some (.int .i64 x) := hn.cell 0
  have f0 := hn.frozen 0
  have hw : IntKind.i64.wrap (x + by_) = x + by_ := IntWalk.i64_in _ ⟨by omega, by omega⟩
  clear hd hm hn
  obtain ⟨v, hv⟩ : ∃ v, v = if 0 ≤ i ∧ m < d i.toNat then x + by_ else x := ⟨_, rfl⟩
  rw [← hv]
  have HV := Lib.hid hv
  clear hv
  go_enter Tryz.func49, Tryz.ntmps49
  by_cases h0 : ¬ 0 ≤ i
  · have h0d : decide (0 ≤ i) = false := by simpa using h0
    have HI := Lib.hid h0
    clear h0
    go_upto_region 0 with fail
    go_quiet (fail)
    go_wp2_with fail
    go_end0
    exact ⟨rfl, by rw [HV.out, if_neg (by have := HI.out; omega)]; exact HN.out.drewN _, below_quiet (Below.refl _ _) ⟨_, rfl⟩⟩
  have h0 : 0 ≤ i := by omega
  obtain ⟨k, rfl⟩ : ∃ k : Nat, i = k := ⟨i.toNat, by omega⟩
  have hk : k < L := by omega
  obtain ⟨b, o, rfl, _, hc⟩ := hr (by omega)
  have c0 : w.cell? ⟨b, o + k, none⟩ = some (.int .i64 (d k)) := hc k hk
  clear hc hr
  rw [Int.toNat_natCast] at HV
  have h0d : decide (0 ≤ (k : Int)) = true := by simp
  generalize d k = y at c0 HV
  by_cases h1 : m < y
  · have h1d : decide (m < y) = true := by simpa using h1
    have H1 := Lib.hid h1
    clear h1
    go_upto_region 0 with fail
    go_quiet (fail)
    have n1 : (w.drewN nq).cell? ⟨nb, 0, none⟩ = some (.int .i64 x) := n0
    go_wp2_with fail
    go_end0
    refine ⟨rfl, ?_, ?_⟩
    · rw [HV.out, if_pos ⟨h0, H1.out⟩]
      first
        | exact (HN.out.set_ 0 _).drewN _
        | exact (HN.out.drewN _).set_ 0 _
    · first
        | exact below_quiet ((Below.refl _ _).setCell (p := ⟨nb, 0, none⟩) (Nat.le_refl _) _) ⟨_, rfl⟩
        | exact (below_quiet (Below.refl _ _) ⟨_, rfl⟩ : Below nb w (w.drewN nq)).setCell (p := ⟨nb, 0, none⟩) (Nat.le_refl _) _
  · have h1d : decide (m < y) = false := by simpa using h1
    have H1 := Lib.hid h1
    clear h1
    go_upto_region 0 with fail
    go_quiet (fail)
    go_wp2_with fail
    go_end0
    exact ⟨rfl, by rw [HV.out, if_neg (by have := H1.out; omega)]; exact HN.out.drewN _, below_quiet (Below.refl _ _) ⟨_, rfl⟩⟩

set_option maxRecDepth 100000 in
set_option maxHeartbeats 4000000 in
theorem keeps_20 (D : Option Addr) (L dc B o : Nat) (d : Nat → Int) (fa m : Int) (w : World) (hL : L ≤ 4096) (ho : 1 ≤ o ∧ o ≤ 4096) (hB : B ≤ w.heap.size) (hr : Rd w B D L (fun j => .int .i64 (d j))) :
    Calls Tryz.prog 20 #[.slice D L dc, .agg #[.int .i64 fa, .int .i64 (o : Int)], .int .i64 m] w fun e w' => e = .returned (.bool (kpE (fun j => decide (m < d j)) o fa L)) ∧ Below w.heap.size w w' := by
  have HR := Lib.hid hr
  obtain ⟨e, he⟩ : ∃ e : Nat → Bool, e = fun j => decide (m < d j) := ⟨_, rfl⟩
  rw [← he]
  have HE : Hid (∀ j, e j = true ↔ m < d j) := Lib.hid fun j => by rw [he]; simp
  clear he hr
  go_enter Tryz.func20, Tryz.ntmps20
  go_upto_region 1 with fail
  obtain ⟨w3, hw3⟩ : ∃ zz, zz = ((w.alloc (.cells #[.slice D L dc] 36)).alloc (.cells #[.int .i64 fa, .int .i64 (o : Int)] 25)).alloc (.cells #[.int .i64 m] 3) := ⟨_, rfl⟩
  have HD3 : Hid (Blk w3 w.heap.size 36 #[.slice D L dc]) := Lib.hid (hw3 ▸ ((Blk.new _ _ _).alloc _).alloc _)
  have HO3 : Hid (Blk w3 (w.heap.size + 1) 25 #[.int .i64 fa, .int .i64 (o : Int)]) := Lib.hid (by rw [hw3]; exact (Blk.new' (by simp)).alloc _)
  have HM3 : Hid (Blk w3 (w.heap.size + 1 + 1) 3 #[.int .i64 m]) := Lib.hid (by rw [hw3]; exact Blk.new' (by simp))
  have HB3 : Hid (Below w.heap.size w w3) := Lib.hid (by rw [hw3]; exact ((below_alloc _ _).alloc (by simp) _).alloc (by simp; omega) _)
  have hz3 : w.heap.size + 3 ≤ w3.heap.size := by rw [hw3]; simp
  rw [← hw3]
  clear hw3
  go_upto_region 2 with fail
  obtain ⟨w4, hw4⟩ : ∃ zz, zz = w3.alloc (.cells #[.int .i64 0] 3) := ⟨_, rfl⟩
  have HD4 : Hid (Blk w4 w.heap.size 36 #[.slice D L dc]) := Lib.hid (hw4 ▸ HD3.out.alloc _)
  have HO4 : Hid (Blk w4 (w.heap.size + 1) 25 #[.int .i64 fa, .int .i64 (o : Int)]) := Lib.hid (hw4 ▸ HO3.out.alloc _)
  have HM4 : Hid (Blk w4 (w.heap.size + 1 + 1) 3 #[.int .i64 m]) := Lib.hid (hw4 ▸ HM3.out.alloc _)
  have HN4 : Hid (Blk w4 w3.heap.size 3 #[.int .i64 0]) := Lib.hid (hw4 ▸ Blk.new _ _ _)
  have HB4 : Hid (Below w.heap.size w w4) := Lib.hid (hw4 ▸ HB3.out.alloc HB3.out.size _)
  rw [← hw4]
  clear hw4 HD3 HO3 HM3 HB3
  generalize w3.heap.size = nb at *
  clear w3
  have hnlt := HN4.out.lt
  have d0 : w4.cell? ⟨w.heap.size, 0, none⟩ = some (.slice D L dc) := HD4.out.cell 0
  go_wp2_with fail
  clear d0
  go_loopw [13] (fun i wr => ∃ k : Nat, k ≤ L ∧ i = .int .i64 k ∧ Hid (Blk wr nb 3 #[.int .i64 (cntE e o k)]) ∧ Hid (kpE e o fa k = true) ∧ Below nb w4 wr) (fun i _ => L - (intOf i).toNat)
  case atStart => exact ⟨0, Nat.zero_le _, rfl, HN4, Lib.hid rfl, Below.refl _ _⟩
  case round =>
    obtain ⟨k, hk, rfl, HN, HK, hb⟩ := hrel
    have HD := Lib.hid (HD4.out.below hb (by omega))
    have HO := Lib.hid (HO4.out.below hb (by omega))
    have HM := Lib.hid (HM4.out.below hb (by omega))
    have HBr := Lib.hid (HB4.out.trans (hb.mono (by omega)))
    have HL := Lib.hid hb
    clear hb
    by_cases hlt : ¬ k < L
    · have hlt' : ¬ (k : Int) < (L : Int) := by omega
      have hkl : k = L := by omega
      have HK2 : Hid (kpE e o fa L = true) := Lib.hid (hkl ▸ HK.out)
      clear hkl
      go_wp2_with fail
      go_ret
      exact ⟨ret_bool HK2.out.symm, HBr.out⟩
    have hlt : k < L := by omega
    have hlt' : (k : Int) < (L : Int) := by omega
    obtain ⟨b1, b2⟩ := cntE_bound e o k
    have HC1 := Lib.hid (count_49 w.heap.size (w.heap.size + 1 + 1) nb L dc B D d k 1 m (cntE e o k) wr hlt' ⟨by omega, by omega⟩ HD.out HM.out HN.out (HR.out.below (HBr.out.mono hB)))
    have HS : Hid (cntE e o (k + 1) = cntE e o k + (if e k = true then 1 else 0) - (if o ≤ k ∧ e (k - o) = true then 1 else 0)) := Lib.hid rfl
    have HKS : Hid (kpE e o fa (k + 1) = (kpE e o fa k && decide (cntE e o (k + 1) ≤ fa))) := Lib.hid rfl
    generalize cntE e o k = x at HN b1 b2 HC1 HS
    generalize hx2 : cntE e o (k + 1) = x2 at HS HKS
    have HX2 := Lib.hid hx2
    clear hx2
    obtain ⟨x1, hx1⟩ : ∃ x1, x1 = if 0 ≤ (k : Int) ∧ m < d (k : Int).toNat then x + 1 else x := ⟨_, rfl⟩
    rw [← hx1] at HC1
    have hx1b : x ≤ x1 ∧ x1 ≤ x + 1 := by rw [hx1]; split <;> omega
    have HX1 : Hid (x1 = x + (if e k = true then 1 else 0)) := Lib.hid (by
      rw [hx1, Int.toNat_natCast]
      by_cases h : m < d k
      · rw [if_pos ⟨by omega, h⟩, if_pos ((HE.out k).2 h)]
      · rw [if_neg (fun h' => h h'.2), if_neg (fun h' => h ((HE.out k).1 h'))]; omega)
    clear hx1
    go_wp2_with fail
    refine HC1.out.mono ?_
    rintro e5 w5 ⟨rfl, hn5, hb⟩
    have HN5 := Lib.hid hn5
    have HD5 := Lib.hid (HD.out.below hb (by omega))
    have HO5 := Lib.hid (HO.out.below hb (by omega))
    have HM5 := Lib.hid (HM.out.below hb (by omega))
    have HB5 := Lib.hid (HBr.out.trans (hb.mono (by omega)))
    have HL5 := Lib.hid (HL.out.trans hb)
    clear hn5 hb HN HD HO HM HBr HL HC1
    clear wr
    have hws : IntKind.i64.wrap ((k : Int) - (o : Int)) = (k : Int) - (o : Int) := IntWalk.i64_in _ ⟨by omega, by omega⟩
    have HC2 := Lib.hid (count_49 w.heap.size (w.heap.size + 1 + 1) nb L dc B D d ((k : Int) - (o : Int)) (-1) m x1 w5 (by omega) ⟨by omega, by omega⟩ HD5.out HM5.out HN5.out (HR.out.below (HB5.out.mono hB)))
    obtain ⟨y, hy⟩ : ∃ y, y = if 0 ≤ (k : Int) - (o : Int) ∧ m < d ((k : Int) - (o : Int)).toNat then x1 + -1 else x1 := ⟨_, rfl⟩
    rw [← hy] at HC2
    have HXY : Hid (y = x2) := Lib.hid (by
      have hB : y = x1 - (if o ≤ k ∧ e (k - o) = true then 1 else 0) := by
       rw [hy]
       by_cases h : o ≤ k
       · have hko : ((k : Int) - (o : Int)).toNat = k - o := by omega
         rw [hko]
         by_cases h' : m < d (k - o)
         · rw [if_pos ⟨by omega, h'⟩, if_pos ⟨h, (HE.out _).2 h'⟩]; omega
         · rw [if_neg (fun q => h' q.2), if_neg (fun q => h' ((HE.out _).1 q.2))]; omega
       · rw [if_neg (by omega), if_neg (fun q => h q.1)]; omega
      rw [hB, HS.out, HX1.out])
    clear hy
    have o1 : w5.cell? ⟨w.heap.size + 1, 1, none⟩ = some (.int .i64 (o : Int)) := HO5.out.cell 1
    go_wp2_with fail
    refine HC2.out.mono ?_
    rintro e6 w6 ⟨rfl, hn6, hb⟩
    have HN6 := Lib.hid hn6
    have HO6 := Lib.hid (HO5.out.below hb (by omega))
    have HB6 := Lib.hid (HB5.out.trans (hb.mono (by omega)))
    have HL6 := Lib.hid (HL5.out.trans hb)
    clear hn6 hb HN5 HD5 HO5 HM5 HB5 HL5 HC2 o1
    clear w5
    have n6 : w6.cell? ⟨nb, 0, none⟩ = some (.int .i64 y) := HN6.out.cell 0
    have o6 : w6.cell? ⟨w.heap.size + 1, 0, none⟩ = some (.int .i64 fa) := HO6.out.cell 0
    by_cases hfa : fa < y
    · have hfd : decide (fa < y) = true := by simpa using hfa
      have HFA := Lib.hid hfa
      have HF : Hid (kpE e o fa L = false) := Lib.hid (by
        have h1 : kpE e o fa (k + 1) = false := by rw [HKS.out, ← HXY.out, show decide (y ≤ fa) = false by simpa using hfa, Bool.and_false]
        have h2 : ∀ j, k + 1 ≤ j → kpE e o fa j = false := by
          intro j hj
          induction j with
          | zero => omega
          | succ j ih =>
            by_cases h3 : k + 1 ≤ j
            · rw [kpE, ih h3]; rfl
            · have h4 : k = j := by omega
              rw [← h4]; exact h1
        exact h2 L (by omega))
      clear hfa
      go_wp2_with fail
      go_ret
      exact ⟨ret_bool HF.out.symm, HB6.out⟩
    · have hfd : decide (fa < y) = false := by simpa using hfa
      have HT : Hid (kpE e o fa (k + 1) = true) := Lib.hid (by rw [HKS.out, HK.out, ← HXY.out, show decide (y ≤ fa) = true by simpa using hfa]; rfl)
      clear hfa
      go_wp2_with fail
      go_roundw
      case rel => exact ⟨k + 1, by omega, by go_num, by rw [HX2.out, ← HXY.out]; exact HN6, HT, HL6.out⟩
      case measure => simp [intOf]; omega
end Go.Proofs.YtonkjnkokikpgaaGreat
