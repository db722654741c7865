/- FieldThrough returns true for every slice of points, every polynomial and every integer: no condition. -/
import Derived.Test.YtklngacahhlhmaaLaw
import Derived.Test.YtklngacahhlhmaaLawsC
namespace Go.Proofs.Ytklngacahhlhmaa.fieldThrough
open Go.ChangeShapes Go.WideShapes Go.ChangeAt Go.RowKit

set_option maxRecDepth 100000 in
theorem lifted (os : Os) (started : os.Started) (H : Type) (enc : TypeId × Value → H) :
    ReturnsInHanded {} Try.checked os 6 .any (Rows.fieldThroughSpec.pre6 enc Try.prog Try.f6 Rows.fieldThroughRow.domain false) (Rows.fieldThroughSpec.post enc Try.prog Try.f6 false true false false) := by
  refine returnsInHanded_of_change (C := Try.checked) ownOf started (by kernel_rfl) Try.func6
    (ChangeSpec.witness6 (enc := enc) (C := Try.checked) false ⟨#[], #[.slice none 0 0, .slice none 0 0, .int .i64 0], []⟩ 8 (by kernel_rfl) (by kernel_rfl) (by kernel_rfl) (by kernel_rfl)) ?_
  intro W base args ds gs before hval0 hW hcnd _
  have hval : ∀ (j : Nat) t v, Try.f6.params[j]? = some t → args[j]? = some v → Value.okWide Try.prog W .any base t v := hval0
  have hW' := hW
  obtain ⟨p, q, hA0, hV, rfl, hfz, hnd⟩ := hW
  have hA : DataW.TrodAll enc Try.prog W 0 (fun _ => true) true Try.f6.params.toList args.toList ds p := hA0
  rw [Try.params6] at hA hval
  obtain ⟨v0, vs0, d0, ds0, p0, q0, hargs, rfl, rfl, h0, r0⟩ := trodAll_cons hA
  obtain ⟨v1, vs1, d1, ds1, p1, q1, rfl, rfl, rfl, h1, r1⟩ := trodAll_cons r0
  obtain ⟨v2, vs2, d2, ds2, p2, q2, rfl, rfl, rfl, h2, r2⟩ := trodAll_cons r1
  obtain ⟨rfl, rfl, rfl⟩ := trodAll_nil r2
  obtain rfl : args = #[v0, v1, v2] := by cases args; simp_all
  obtain ⟨rfl, rfl⟩ := trodVars_none hV
  obtain ⟨A0, n0, c0, X0, Y0, rfl, k0, m0, g0, l0, x0⟩ := open_points_rd (hval 0 30 v0 rfl rfl) h0
  obtain ⟨A1, n1, c1, f1, rfl, k1, m1, g1, x1⟩ := open_ints_rd (hval 1 29 v1 rfl rfl) h1
  obtain ⟨a2, rfl, rfl, rfl, w2⟩ := open_int Try.underlying3 (hval 2 3 v2 rfl rfl) h2
  exact (through_6 A0 A1 n0 c0 n1 c1 _ X0 Y0 f1 a2 W (by omega) (by omega) (Nat.le_refl _) x0 x1 g0 l0 g1 (i64_of w2)).mono fun e W' ⟨he, hb⟩ => ⟨_, he, law_post rfl rfl (by kernel_rfl) rfl hW' hb⟩

theorem over : Rows.fieldThroughRow.holds Try.pinned (OpenSpec.ofChange Rows.fieldThroughSpec) :=
  OpenClaim.holds_of_wide 6 Try.f6 rfl rfl rfl rfl rfl rfl rfl ⟨rfl, rfl, rfl, rfl, rfl⟩ rfl rfl rfl rfl rfl (by kernel_rfl) Try.func6 (by kernel_rfl)
    (of_decide_eq_true (by kernel_rfl)) (by unfold Func.isWrapper; first | (rw [if_pos (by decide +kernel)]; kernel_rfl) | (rw [if_neg (by decide +kernel)]; exact ⟨rfl, rfl⟩))
    (fun os started H enc _ => lifted os started H enc)

/-- the given statement -/
theorem proved : Rows.FieldThroughSaid := over
#print axioms proved
end Go.Proofs.Ytklngacahhlhmaa.fieldThrough
