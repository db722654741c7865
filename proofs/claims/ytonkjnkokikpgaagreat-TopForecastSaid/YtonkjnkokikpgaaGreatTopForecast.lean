/- TopForecast returns true for every input; no condition. -/
import Derived.Test.YtonkjnkokikpgaaGreatLaw
import Derived.Test.YtonkjnkokikpgaaGreatTopG
import Derived.Test.YtonkjnkokikpgaaGreatOpen
namespace Go.Proofs.YtonkjnkokikpgaaGreat.topForecast
open Go.ChangeShapes Go.WideShapes Go.ChangeAt Go.RowKit

set_option maxRecDepth 100000 in
theorem lifted (os : Os) (started : os.Started) (H : Type) (enc : TypeId × Value → H) :
    ReturnsInHanded {} Tryz.checked os 3 .any (Rows.topForecastSpec.pre6 enc Tryz.prog Tryz.f3 Rows.topForecastRow.domain false) (Rows.topForecastSpec.post enc Tryz.prog Tryz.f3 false true false false) := by
  refine returnsInHanded_of_change (C := Tryz.checked) ownOf started (by kernel_rfl) Tryz.func3
    (ChangeSpec.witness6 (enc := enc) (C := Tryz.checked) false ⟨#[], #[.slice none 0 0, .int .u8 0, .int .u8 0, .slice none 0 0, .agg #[.int .i64 0, .int .i64 0], .agg #[.int .i64 0, .int .i64 0, .int .i64 0, .slice none 0 0], .slice none 0 0, .slice none 0 0, .slice none 0 0], []⟩ 8 (by kernel_rfl) (by kernel_rfl) (by kernel_rfl) (by kernel_rfl)) ?_
  intro W base args ds gs before hval0 hW hcnd _
  have hval : ∀ (j : Nat) t v, Tryz.f3.params[j]? = some t → args[j]? = some v → Value.okWide Tryz.prog W .any base t v := hval0
  have hW' := hW
  obtain ⟨p, q, hA0, hV, rfl, hfz, hnd⟩ := hW
  have hA : DataW.TrodAll enc Tryz.prog W 0 (fun _ => true) true Tryz.f3.params.toList args.toList ds p := hA0
  rw [Tryz.params3] at hA hval
  obtain ⟨v0, vs0, d0, ds0, p0, q0, hargs, rfl, rfl, h0, r0⟩ := trodAll_cons hA
  obtain ⟨v1, vs1, d1, ds1, p1, q1, rfl, rfl, rfl, h1, r1⟩ := trodAll_cons r0
  obtain ⟨v2, vs2, d2, ds2, p2, q2, rfl, rfl, rfl, h2, r2⟩ := trodAll_cons r1
  obtain ⟨v3, vs3, d3, ds3, p3, q3, rfl, rfl, rfl, h3, r3⟩ := trodAll_cons r2
  obtain ⟨v4, vs4, d4, ds4, p4, q4, rfl, rfl, rfl, h4, r4⟩ := trodAll_cons r3
  obtain ⟨v5, vs5, d5, ds5, p5, q5, rfl, rfl, rfl, h5, r5⟩ := trodAll_cons r4
  obtain ⟨v6, vs6, d6, ds6, p6, q6, rfl, rfl, rfl, h6, r6⟩ := trodAll_cons r5
  obtain ⟨v7, vs7, d7, ds7, p7, q7, rfl, rfl, rfl, h7, r7⟩ := trodAll_cons r6
  obtain ⟨v8, vs8, d8, ds8, p8, q8, rfl, rfl, rfl, h8, r8⟩ := trodAll_cons r7
  obtain ⟨rfl, rfl, rfl⟩ := trodAll_nil r8
  obtain rfl : args = #[v0, v1, v2, v3, v4, v5, v6, v7, v8] := by cases args; simp_all
  obtain ⟨rfl, rfl⟩ := trodVars_none hV
  obtain ⟨A0, n0, c0, f0, rfl, k0, m0, x0⟩ := open_ensembles (hval 0 22 v0 rfl rfl) h0
  obtain ⟨a1, rfl, rfl, rfl, w1⟩ := open_int Tryz.underlying5 (hval 1 5 v1 rfl rfl) h1
  have b1 := bounds_u8 w1
  obtain ⟨l1, rfl⟩ : ∃ l : Nat, a1 = l := ⟨a1.toNat, by omega⟩
  obtain ⟨a2, rfl, rfl, rfl, w2⟩ := open_int Tryz.underlying5 (hval 2 5 v2 rfl rfl) h2
  have b2 := bounds_u8 w2
  obtain ⟨l2, rfl⟩ : ∃ l : Nat, a2 = l := ⟨a2.toNat, by omega⟩
  obtain ⟨A3, n3, c3, f3, rfl, k3, m3, x3⟩ := open_pasts (hval 3 23 v3 rfl rfl) h3
  obtain ⟨fa4, of4, rfl⟩ := open_budget (hval 4 25 v4 rfl rfl) h4
  obtain ⟨cp5, st5, fl5, PA5, n5, pc5, lo5, hi5, dm5, ou5, sp5, rfl, k5, m5, x5⟩ := open_course (hval 5 30 v5 rfl rfl) h5
  obtain ⟨A6, n6, c6, f6, rfl, k6, m6, g6, x6⟩ := open_u32s (hval 6 31 v6 rfl rfl) h6
  obtain ⟨A7, n7, c7, f7, rfl, k7, m7, g7, x7⟩ := open_u16s (hval 7 32 v7 rfl rfl) h7
  obtain ⟨A8, n8, c8, f8, rfl, k8, m8, g8, x8⟩ := open_u16s (hval 8 32 v8 rfl rfl) h8
  exact (TopForecast_3 A0 A3 PA5 A6 A7 A8 n0 c0 n3 c3 n5 pc5 n6 c6 n7 c7 n8 c8 W.heap.size l1 l2 fa4 of4 cp5 st5 fl5 f0 f3 lo5 hi5 dm5 ou5 sp5 f6 f7 f8 W (Nat.le_refl _) (Nat.le_trans k0 m0) (Nat.le_trans k3 m3) (Nat.le_trans k5 m5) (by omega) (by omega) x0 x3 x5 x6 x7 x8 (fun j _ => g6 j) (fun j _ => g7 j) (fun j _ => g8 j)).mono fun e W' ⟨he, hb⟩ => ⟨_, he, law_post rfl rfl (by kernel_rfl) rfl hW' hb⟩

theorem over : Rows.topForecastRow.holds Tryz.pinned (OpenSpec.ofChange Rows.topForecastSpec) :=
  OpenClaim.holds_of_wide 3 Tryz.f3 rfl rfl rfl rfl rfl rfl rfl ⟨rfl, rfl, rfl, rfl, rfl⟩ rfl rfl rfl rfl rfl (by kernel_rfl) Tryz.func3 (by kernel_rfl)
    (of_decide_eq_true (by kernel_rfl)) (by unfold Func.isWrapper; first | (rw [if_pos (by decide +kernel)]; kernel_rfl) | (rw [if_neg (by decide +kernel)]; exact ⟨rfl, rfl⟩))
    (fun os started H enc _ => lifted os started H enc)

/-- the given statement -/
theorem proved : Rows.TopForecastSaid := over
#print axioms proved
end Go.Proofs.YtonkjnkokikpgaaGreat.topForecast
