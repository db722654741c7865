/- PlanPast returns true for every course, all inflows and every number; no condition. -/
import Derived.Test.YtnmocdfogdcliaaLaw
import Derived.Test.YtnmocdfogdcliaaLawH
import Derived.Test.YtnmocdfogdcliaaOpen3
namespace Go.Proofs.Ytnmocdfogdcliaa.planPast
open Go.ChangeShapes Go.WideShapes Go.ChangeAt Go.RowKit

set_option maxRecDepth 100000 in
theorem lifted (os : Os) (started : os.Started) (H : Type) (enc : TypeId × Value → H) :
    ReturnsInHanded {} Try.checked os 8 .any (Rows.planPastSpec.pre6 enc Try.prog Try.f8 Rows.planPastRow.domain false) (Rows.planPastSpec.post enc Try.prog Try.f8 false true false false) := by
  refine returnsInHanded_of_change_sized (C := Try.checked) ownOf started (by kernel_rfl) Try.func8
    (ChangeSpec.witness6 (enc := enc) (C := Try.checked) false ⟨#[], #[.agg #[.int .i64 0, .int .i64 0, .int .i64 0, .slice none 0 0], .slice none 0 0, .slice none 0 0, .int .u8 0], []⟩ 8 (by kernel_rfl) (by kernel_rfl) (by kernel_rfl) (by kernel_rfl)) ?_
  intro W base args ds gs before hval0 hW hcnd hsz0 _
  have hval : ∀ (j : Nat) t v, Try.f8.params[j]? = some t → args[j]? = some v → Value.okWide Try.prog W .any base t v := hval0
  have hW' := hW
  obtain ⟨p, q, hA0, hV, rfl, hfz, hnd⟩ := hW
  have hA : DataW.TrodAll enc Try.prog W 0 (fun _ => true) true Try.f8.params.toList args.toList ds p := hA0
  rw [Try.params8] at hA hval
  obtain ⟨v0, vs0, d0, ds0, p0, q0, hargs, rfl, rfl, h0, r0⟩ := trodAll_cons hA
  obtain ⟨v1, vs1, d1, ds1, p1, q1, rfl, rfl, rfl, h1, r1⟩ := trodAll_cons r0
  obtain ⟨v2, vs2, d2, ds2, p2, q2, rfl, rfl, rfl, h2, r2⟩ := trodAll_cons r1
  obtain ⟨v3, vs3, d3, ds3, p3, q3, rfl, rfl, rfl, h3, r3⟩ := trodAll_cons r2
  obtain ⟨rfl, rfl, rfl⟩ := trodAll_nil r3
  obtain rfl : args = #[v0, v1, v2, v3] := by cases args; simp_all
  obtain ⟨rfl, rfl⟩ := trodVars_none hV
  obtain ⟨cp0, st0, fl0, PA0, n0, pc0, lo0, hi0, dm0, ou0, sp0, rfl, k0, m0, x0⟩ := open_course (hval 0 26 v0 rfl rfl) h0
  obtain ⟨A1, n1, c1, f1, rfl, k1, m1, g1, x1, y1, z1⟩ := open_u32s_room (hval 1 45 v1 rfl rfl) h1
  obtain ⟨A2, n2, c2, f2, rfl, k2, m2, g2, x2, y2, z2⟩ := open_u32s_room (hval 2 45 v2 rfl rfl) h2
  obtain ⟨a3, rfl, rfl, rfl, w3⟩ := open_int Try.underlying5 (hval 3 5 v3 rfl rfl) h3
  have hsz : (DataW.weightsEach Try.prog (Try.f8.params.toList ++ Rows.planPastSpec.plain.varTypes Try.prog) ([d0, d1, d2, _] ++ [])).all (· ≤ reachBytes) = true := hsz0
  rw [Try.params8] at hsz
  have hroom : n2 * 4 ≤ 140737488351232 := by
    rcases z2 with h | ⟨elems, spare, rfl, hl⟩
    · omega
    · have := sized_slice hsz (j := 2) (t := 45) (e := 52) rfl rfl Try.underlying45
      rw [bytes52] at this
      simp only [reachBytes] at this
      omega
  exact (past_8 (PA := PA0) (n := n0) (pc := pc0) (cp := cp0) (st := st0) (fl := fl0) (lo := lo0) (hi := hi0) (dm := dm0) (ou := ou0) (sp := sp0) _ n1 c1 n2 c2 A1 A2 f1 f2 a3 W (Nat.le_trans k0 m0) ⟨k1, m1⟩ hroom y1 (fun h => (y2 h).1) (bounds_u8 w3) g1 g2 (Nat.le_refl _) x0 x1 x2).mono fun e W' ⟨he, hb⟩ => ⟨_, he, law_post rfl rfl (by kernel_rfl) rfl hW' hb⟩

theorem over : Rows.planPastRow.holds Try.pinned (OpenSpec.ofChange Rows.planPastSpec) :=
  OpenClaim.holds_of_wide 8 Try.f8 rfl rfl rfl rfl rfl rfl rfl ⟨rfl, rfl, rfl, rfl, rfl⟩ rfl rfl rfl rfl rfl (by kernel_rfl) Try.func8 (by kernel_rfl)
    (of_decide_eq_true (by kernel_rfl)) (by unfold Func.isWrapper; first | (rw [if_pos (by decide +kernel)]; kernel_rfl) | (rw [if_neg (by decide +kernel)]; exact ⟨rfl, rfl⟩))
    (fun os started H enc _ => lifted os started H enc)

/-- the given statement -/
theorem proved : Rows.PlanPastSaid := over
#print axioms proved
end Go.Proofs.Ytnmocdfogdcliaa.planPast
