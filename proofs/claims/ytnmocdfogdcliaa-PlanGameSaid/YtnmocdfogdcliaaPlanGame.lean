/- PlanGame returns true for every course; no condition. -/
import Derived.Test.YtnmocdfogdcliaaLaw
import Derived.Test.YtnmocdfogdcliaaLawG
namespace Go.Proofs.Ytnmocdfogdcliaa.planGame
open Go.ChangeShapes Go.WideShapes Go.ChangeAt Go.RowKit

set_option maxRecDepth 100000 in
theorem lifted (os : Os) (started : os.Started) (H : Type) (enc : TypeId × Value → H) :
    ReturnsInHanded {} Try.checked os 7 .any (Rows.planGameSpec.pre6 enc Try.prog Try.f7 Rows.planGameRow.domain false) (Rows.planGameSpec.post enc Try.prog Try.f7 false true false false) := by
  refine returnsInHanded_of_change (C := Try.checked) ownOf started (by kernel_rfl) Try.func7
    (ChangeSpec.witness6 (enc := enc) (C := Try.checked) false ⟨#[], #[.agg #[.int .i64 0, .int .i64 0, .int .i64 0, .slice none 0 0]], []⟩ 8 (by kernel_rfl) (by kernel_rfl) (by kernel_rfl) (by kernel_rfl)) ?_
  intro W base args ds gs before hval0 hW hcnd _
  have hval : ∀ (j : Nat) t v, Try.f7.params[j]? = some t → args[j]? = some v → Value.okWide Try.prog W .any base t v := hval0
  have hW' := hW
  obtain ⟨p, q, hA0, hV, rfl, hfz, hnd⟩ := hW
  have hA : DataW.TrodAll enc Try.prog W 0 (fun _ => true) true Try.f7.params.toList args.toList ds p := hA0
  rw [Try.params7] at hA hval
  obtain ⟨v0, vs0, d0, ds0, p0, q0, hargs, rfl, rfl, h0, r0⟩ := trodAll_cons hA
  obtain ⟨rfl, rfl, rfl⟩ := trodAll_nil r0
  obtain rfl : args = #[v0] := by cases args; simp_all
  obtain ⟨rfl, rfl⟩ := trodVars_none hV
  obtain ⟨cp0, st0, fl0, PA0, n0, pc0, lo0, hi0, dm0, ou0, sp0, rfl, k0, m0, x0⟩ := open_course (hval 0 26 v0 rfl rfl) h0
  exact (game_7 (PA := PA0) (n := n0) (pc := pc0) (cp := cp0) (st := st0) (fl := fl0) (lo := lo0) (hi := hi0) (dm := dm0) (ou := ou0) (sp := sp0) _ W (Nat.le_trans k0 m0) (Nat.le_refl _) x0).mono fun e W' ⟨he, hb⟩ => ⟨_, he, law_post rfl rfl (by kernel_rfl) rfl hW' hb⟩

theorem over : Rows.planGameRow.holds Try.pinned (OpenSpec.ofChange Rows.planGameSpec) :=
  OpenClaim.holds_of_wide 7 Try.f7 rfl rfl rfl rfl rfl rfl rfl ⟨rfl, rfl, rfl, rfl, rfl⟩ rfl rfl rfl rfl rfl (by kernel_rfl) Try.func7 (by kernel_rfl)
    (of_decide_eq_true (by kernel_rfl)) (by unfold Func.isWrapper; first | (rw [if_pos (by decide +kernel)]; kernel_rfl) | (rw [if_neg (by decide +kernel)]; exact ⟨rfl, rfl⟩))
    (fun os started H enc _ => lifted os started H enc)

/-- the given statement -/
theorem proved : Rows.PlanGameSaid := over
#print axioms proved
end Go.Proofs.Ytnmocdfogdcliaa.planGame
