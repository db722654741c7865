/- Contract of the closure in the law PlanPast: does a release keep the stores? -/
import Derived.Test.YtnmocdfogdcliaaRel28
import Derived.Test.YtnmocdfogdcliaaFails
namespace Go.Proofs.Ytnmocdfogdcliaa
open Go.RowKit

set_option maxRecDepth 100000 in
set_option maxHeartbeats 8000000 in
theorem good_29 {PA : Option Addr} {n pc : Nat} {cp st fl : Int} (cb tb sb xb lb t sc lc b1 p1 b2 p2 : Nat) (x r z0 z1 z2 z3 z4 S1 S2 y1 s1 y2 s2 : Int) (o1 o2 : Bool) (w : World) (ht : t < n) (hn : n ≤ 64)
    (hc : Blk w cb 26 #[.int .i64 cp, .int .i64 st, .int .i64 fl, .slice PA n pc]) (htb : Blk w tb 3 #[.int .i64 t]) (hs : Blk w sb 41 #[.slice (some ⟨b2, p2, none⟩) n sc]) (hx : Blk w xb 50 #[.int .i64 z0, .int .i64 z1, .int .i64 z2, .int .i64 z3, .int .i64 z4]) (hl : Blk w lb 28 #[.slice (some ⟨b1, p1, none⟩) (n + 1) lc])
    (hb2 : b2 < w.heap.size) (hcx : w.cell? ⟨b2, p2 + t, none⟩ = some (.int .i64 x)) (hb1 : b1 < w.heap.size) (hc1 : w.cell? ⟨b1, p1 + (t + 1) * 2, none⟩ = some (.int .i64 S1)) (hc2 : w.cell? ⟨b1, p1 + (t + 1) * 2 + 1, none⟩ = some (.int .i64 S2))
    (h1 : ∀ W, Below w.heap.size w W → Calls Try.prog 19 #[(.agg #[.int .i64 cp, .int .i64 st, .int .i64 fl, .slice PA n pc]), .int .i64 t, .int .i64 x, .int .i64 r, .int .i64 z0] W fun e w' => e = .returned (.tuple #[.int .i64 y1, .int .i64 s1, .bool o1, .int .i64 0]) ∧ Below W.heap.size W w')
    (h2 : ∀ W, Below w.heap.size w W → Calls Try.prog 19 #[(.agg #[.int .i64 cp, .int .i64 st, .int .i64 fl, .slice PA n pc]), .int .i64 t, .int .i64 x, .int .i64 r, .int .i64 z1] W fun e w' => e = .returned (.tuple #[.int .i64 y2, .int .i64 s2, .bool o2, .int .i64 0]) ∧ Below W.heap.size W w') :
    Calls Try.prog 29 #[.int .i64 r, .pointer (some ⟨cb, 0, none⟩), .pointer (some ⟨tb, 0, none⟩), .pointer (some ⟨sb, 0, none⟩), .pointer (some ⟨xb, 0, none⟩), .pointer (some ⟨lb, 0, none⟩)] w fun e w' => e = .returned (.bool (((o1 && o2) && ri3 S1 y1 S2) && ri3 S1 y2 S2)) ∧ Below w.heap.size w w' := by
  have HPR : Hid (∀ W, Below w.heap.size w W → (fun w' : World => w'.cell? ⟨cb, 0, none⟩ = some (.int .i64 cp) ∧ w'.cell? ⟨cb, 1, none⟩ = some (.int .i64 st) ∧ w'.cell? ⟨cb, 2, none⟩ = some (.int .i64 fl) ∧ w'.cell? ⟨cb, 3, none⟩ = some (.slice PA n pc) ∧ w'.cell? ⟨tb, 0, none⟩ = some (.int .i64 t) ∧ w'.cell? ⟨sb, 0, none⟩ = some (.slice (some ⟨b2, p2, none⟩) n sc) ∧ w'.cell? ⟨xb, 0, none⟩ = some (.int .i64 z0) ∧ w'.cell? ⟨xb, 1, none⟩ = some (.int .i64 z1) ∧ w'.cell? ⟨b2, p2 + t, none⟩ = some (.int .i64 x)) W) := Lib.hid fun W h => by
    have a := hc.below h hc.lt
    have b := hx.below h hx.lt
    exact ⟨a.cell 0, a.cell 1, a.cell 2, a.cell 3, (htb.below h htb.lt).cell 0, (hs.below h hs.lt).cell 0, b.cell 0, b.cell 1, (h.cell (p := ⟨b2, p2 + t, none⟩) hb2).trans hcx⟩
  obtain ⟨m, hm⟩ : ∃ m : Nat, m = t + 1 := ⟨_, rfl⟩
  rw [← hm] at hc1 hc2
  have HPL : Hid (∀ W, Below w.heap.size w W → W.cell? ⟨tb, 0, none⟩ = some (.int .i64 t) ∧ W.cell? ⟨lb, 0, none⟩ = some (.slice (some ⟨b1, p1, none⟩) (n + 1) lc) ∧ W.cell? ⟨b1, p1 + m * 2, none⟩ = some (.int .i64 S1) ∧ W.cell? ⟨b1, p1 + m * 2 + 1, none⟩ = some (.int .i64 S2)) := Lib.hid fun W h =>
    ⟨(htb.below h htb.lt).cell 0, (hl.below h hl.lt).cell 0, (h.cell (p := ⟨b1, p1 + m * 2, none⟩) hb1).trans hc1, (h.cell (p := ⟨b1, p1 + m * 2 + 1, none⟩) hb1).trans hc2⟩
  have H1 := Lib.hid h1
  have H2 := Lib.hid h2
  have htn : (t : Int) < n := by omega
  have hwm : IntKind.i64.wrap ((t : Int) + 1) = (m : Int) := by rw [IntWalk.i64_in _ ⟨by omega, by omega⟩, hm]; rfl
  have hm1 : (m : Int) < (n : Int) + 1 := by omega
  have hm2 : m < n + 1 := by omega
  clear hc htb hs hx hl hcx hc1 hc2 h1 h2 hm hn
  go_enter Try.func29, Try.ntmps29
  go_upto_region 1 with fail
  refine wp_region_tail (fun _ => True) (fun w' => w'.cell? ⟨cb, 0, none⟩ = some (.int .i64 cp) ∧ w'.cell? ⟨cb, 1, none⟩ = some (.int .i64 st) ∧ w'.cell? ⟨cb, 2, none⟩ = some (.int .i64 fl) ∧ w'.cell? ⟨cb, 3, none⟩ = some (.slice PA n pc) ∧ w'.cell? ⟨tb, 0, none⟩ = some (.int .i64 t) ∧ w'.cell? ⟨sb, 0, none⟩ = some (.slice (some ⟨b2, p2, none⟩) n sc) ∧ w'.cell? ⟨xb, 0, none⟩ = some (.int .i64 z0) ∧ w'.cell? ⟨xb, 1, none⟩ = some (.int .i64 z1) ∧ w'.cell? ⟨b2, p2 + t, none⟩ = some (.int .i64 x)) 19 19 (by kernel_rfl) ⟨trivial, HPR.out _ (Below.refl w.heap.size w).drew⟩ (fun hHeld => ?_)
  refine wpAnyT_takeB (i := 0) (v := .agg #[.int .i64 cp, .int .i64 st, .int .i64 fl, .slice PA n pc]) rfl (by kernel_rfl) (by kernel_rfl) (by kernel_rfl) (by kernel_rfl) (by kernel_rfl) (by decide) (by decide) (fun _ _ _ h => h) (Or.inl ⟨by kernel_rfl, ?_⟩) hHeld ?_
  · intro w' hSw
    obtain ⟨o0, q1, q2, o3, o4, o5, o6, o7, o8⟩ := hSw
    go_simp
  refine wpAnyT_takeB (i := 1) (v := .int .i64 t) rfl (by kernel_rfl) (by kernel_rfl) (by kernel_rfl) (by kernel_rfl) (by kernel_rfl) (by decide) (by decide) (fun _ _ _ h => h) (Or.inl ⟨by kernel_rfl, ?_⟩) hHeld ?_
  · intro w' hSw
    obtain ⟨o0, q1, q2, o3, o4, o5, o6, o7, o8⟩ := hSw
    go_simp
  simp only [Act.put]
  refine wpAnyT_takeB (i := 2) (v := .slice (some ⟨b2, p2, none⟩) n sc) rfl (by kernel_rfl) (by kernel_rfl) (by kernel_rfl) (by kernel_rfl) (by kernel_rfl) (by decide) (by decide) (fun _ _ _ h => h) (Or.inl ⟨by kernel_rfl, ?_⟩) hHeld ?_
  · intro w' hSw
    obtain ⟨o0, q1, q2, o3, o4, o5, o6, o7, o8⟩ := hSw
    go_simp
  refine wpAnyT_takeB (i := 3) (v := .int .i64 t) rfl (by kernel_rfl) (by kernel_rfl) (by kernel_rfl) (by kernel_rfl) (by kernel_rfl) (by decide) (by decide) (fun _ _ _ h => h) (Or.inl ⟨by kernel_rfl, ?_⟩) hHeld ?_
  · intro w' hSw
    obtain ⟨o0, q1, q2, o3, o4, o5, o6, o7, o8⟩ := hSw
    go_simp
  simp only [Act.put]
  refine wpAnyT_takeB (i := 4) (v := .pointer (some ⟨b2, p2 + t, none⟩)) rfl (by kernel_rfl) (by kernel_rfl) (by kernel_rfl) (by kernel_rfl) (by kernel_rfl) (by decide) (by decide) (fun _ _ _ h => h) (Or.inl ⟨by kernel_rfl, ?_⟩) hHeld ?_
  · intro w' hSw
    obtain ⟨o0, q1, q2, o3, o4, o5, o6, o7, o8⟩ := hSw
    go_simp
  refine wpAnyT_takeB (i := 5) (v := .int .i64 x) rfl (by kernel_rfl) (by kernel_rfl) (by kernel_rfl) (by kernel_rfl) (by kernel_rfl) (by decide) (by decide) (fun _ _ _ h => h) (Or.inl ⟨by kernel_rfl, ?_⟩) hHeld ?_
  · intro w' hSw
    obtain ⟨o0, q1, q2, o3, o4, o5, o6, o7, o8⟩ := hSw
    go_simp
  simp only [Act.put]
  refine wpAnyT_takeB (i := 6) (v := .int .i64 r) rfl (by kernel_rfl) (by kernel_rfl) (by kernel_rfl) (by kernel_rfl) (by kernel_rfl) (by decide) (by decide) (fun _ _ _ h => h) (Or.inl ⟨by kernel_rfl, ?_⟩) hHeld ?_
  · intro w' hSw
    obtain ⟨o0, q1, q2, o3, o4, o5, o6, o7, o8⟩ := hSw
    go_simp
  refine wpAnyT_takeB (i := 7) (v := .pointer (some ⟨xb, 0, none⟩)) rfl (by kernel_rfl) (by kernel_rfl) (by kernel_rfl) (by kernel_rfl) (by kernel_rfl) (by decide) (by decide) (fun _ _ _ h => h) (Or.inl ⟨by kernel_rfl, ?_⟩) hHeld ?_
  · intro w' hSw
    obtain ⟨o0, q1, q2, o3, o4, o5, o6, o7, o8⟩ := hSw
    go_simp
  simp only [Act.put]
  refine wpAnyT_takeB (i := 8) (v := .pointer (some ⟨xb, 0, none⟩)) rfl (by kernel_rfl) (by kernel_rfl) (by kernel_rfl) (by kernel_rfl) (by kernel_rfl) (by decide) (by decide) (fun _ _ _ h => h) (Or.inl ⟨by kernel_rfl, ?_⟩) hHeld ?_
  · intro w' hSw
    obtain ⟨o0, q1, q2, o3, o4, o5, o6, o7, o8⟩ := hSw
    go_simp
  refine wpAnyT_takeB (i := 9) (v := .int .i64 z0) rfl (by kernel_rfl) (by kernel_rfl) (by kernel_rfl) (by kernel_rfl) (by kernel_rfl) (by decide) (by decide) (fun _ _ _ h => h) (Or.inl ⟨by kernel_rfl, ?_⟩) hHeld ?_
  · intro w' hSw
    obtain ⟨o0, q1, q2, o3, o4, o5, o6, o7, o8⟩ := hSw
    go_simp
  simp only [Act.put]
  refine wpAnyT_one (T := fun w' => w'.cell? ⟨cb, 0, none⟩ = some (.int .i64 cp) ∧ w'.cell? ⟨cb, 1, none⟩ = some (.int .i64 st) ∧ w'.cell? ⟨cb, 2, none⟩ = some (.int .i64 fl) ∧ w'.cell? ⟨cb, 3, none⟩ = some (.slice PA n pc) ∧ w'.cell? ⟨tb, 0, none⟩ = some (.int .i64 t) ∧ w'.cell? ⟨sb, 0, none⟩ = some (.slice (some ⟨b2, p2, none⟩) n sc) ∧ w'.cell? ⟨xb, 0, none⟩ = some (.int .i64 z0) ∧ w'.cell? ⟨xb, 1, none⟩ = some (.int .i64 z1) ∧ w'.cell? ⟨b2, p2 + t, none⟩ = some (.int .i64 x)) (i := 10) (by kernel_rfl) rfl (fun _ h => ⟨fun _ => trivial, fun _ => h⟩) (fun K hK => ?_)
  go_simp
  go_at_call 19
  refine (H1.out _ (Below.refl w.heap.size w).drew).mono ?_
  rintro e d1 ⟨rfl, hb⟩
  have HD1 : Below w.heap.size w d1 := ((Below.refl w.heap.size w).drew).trans (hb.mono ((Below.refl w.heap.size w).drew).size)
  clear hb
  refine hK.out _ _ (HPR.out _ HD1) (fun hH => ?_)
  have hHeld := And.intro trivial hH
  clear hK K
  refine wpAnyT_takeB (i := 11) (v := .tuple #[.int .i64 y1, .int .i64 s1, .bool o1, .int .i64 0]) rfl (by kernel_rfl) (by kernel_rfl) (by kernel_rfl) (by kernel_rfl) (by kernel_rfl) (by decide) (by decide) (fun _ _ _ h => h) (Or.inl ⟨by kernel_rfl, ?_⟩) hHeld ?_
  · intro w' hSw
    obtain ⟨o0, q1, q2, o3, o4, o5, o6, o7, o8⟩ := hSw
    go_simp
  simp only [Act.put]
  refine wpAnyT_takeB (i := 12) (v := .int .i64 y1) rfl (by kernel_rfl) (by kernel_rfl) (by kernel_rfl) (by kernel_rfl) (by kernel_rfl) (by decide) (by decide) (fun _ _ _ h => h) (Or.inl ⟨by kernel_rfl, ?_⟩) hHeld ?_
  · intro w' hSw
    obtain ⟨o0, q1, q2, o3, o4, o5, o6, o7, o8⟩ := hSw
    go_simp
  refine wpAnyT_takeB (i := 13) (v := .int .i64 s1) rfl (by kernel_rfl) (by kernel_rfl) (by kernel_rfl) (by kernel_rfl) (by kernel_rfl) (by decide) (by decide) (fun _ _ _ h => h) (Or.inl ⟨by kernel_rfl, ?_⟩) hHeld ?_
  · intro w' hSw
    obtain ⟨o0, q1, q2, o3, o4, o5, o6, o7, o8⟩ := hSw
    go_simp
  simp only [Act.put]
  refine wpAnyT_takeB (i := 14) (v := .bool o1) rfl (by kernel_rfl) (by kernel_rfl) (by kernel_rfl) (by kernel_rfl) (by kernel_rfl) (by decide) (by decide) (fun _ _ _ h => h) (Or.inl ⟨by kernel_rfl, ?_⟩) hHeld ?_
  · intro w' hSw
    obtain ⟨o0, q1, q2, o3, o4, o5, o6, o7, o8⟩ := hSw
    go_simp
  refine wpAnyT_takeB (i := 15) (v := .int .i64 0) rfl (by kernel_rfl) (by kernel_rfl) (by kernel_rfl) (by kernel_rfl) (by kernel_rfl) (by decide) (by decide) (fun _ _ _ h => h) (Or.inl ⟨by kernel_rfl, ?_⟩) hHeld ?_
  · intro w' hSw
    obtain ⟨o0, q1, q2, o3, o4, o5, o6, o7, o8⟩ := hSw
    go_simp
  simp only [Act.put]
  refine wpAnyT_one (T := fun w' => w'.cell? ⟨cb, 0, none⟩ = some (.int .i64 cp) ∧ w'.cell? ⟨cb, 1, none⟩ = some (.int .i64 st) ∧ w'.cell? ⟨cb, 2, none⟩ = some (.int .i64 fl) ∧ w'.cell? ⟨cb, 3, none⟩ = some (.slice PA n pc) ∧ w'.cell? ⟨tb, 0, none⟩ = some (.int .i64 t) ∧ w'.cell? ⟨sb, 0, none⟩ = some (.slice (some ⟨b2, p2, none⟩) n sc) ∧ w'.cell? ⟨xb, 0, none⟩ = some (.int .i64 z0) ∧ w'.cell? ⟨xb, 1, none⟩ = some (.int .i64 z1) ∧ w'.cell? ⟨b2, p2 + t, none⟩ = some (.int .i64 x)) (i := 16) (by kernel_rfl) rfl (fun _ h => ⟨fun _ => trivial, fun _ => h⟩) (fun K hK => ?_)
  go_simp
  refine hK.out _ _ (HPR.out _ HD1) (fun _ => ?_)
  clear hK K
  refine wpAnyT_one (T := fun w' => w'.cell? ⟨cb, 0, none⟩ = some (.int .i64 cp) ∧ w'.cell? ⟨cb, 1, none⟩ = some (.int .i64 st) ∧ w'.cell? ⟨cb, 2, none⟩ = some (.int .i64 fl) ∧ w'.cell? ⟨cb, 3, none⟩ = some (.slice PA n pc) ∧ w'.cell? ⟨tb, 0, none⟩ = some (.int .i64 t) ∧ w'.cell? ⟨sb, 0, none⟩ = some (.slice (some ⟨b2, p2, none⟩) n sc) ∧ w'.cell? ⟨xb, 0, none⟩ = some (.int .i64 z0) ∧ w'.cell? ⟨xb, 1, none⟩ = some (.int .i64 z1) ∧ w'.cell? ⟨b2, p2 + t, none⟩ = some (.int .i64 x)) (i := 17) (by kernel_rfl) rfl (fun _ h => ⟨fun _ => trivial, fun _ => h⟩) (fun K hK => ?_)
  go_simp
  refine hK.out _ _ (HPR.out _ HD1) (fun _ => ?_)
  clear hK K
  refine wpAnyT_one (T := fun w' => w'.cell? ⟨cb, 0, none⟩ = some (.int .i64 cp) ∧ w'.cell? ⟨cb, 1, none⟩ = some (.int .i64 st) ∧ w'.cell? ⟨cb, 2, none⟩ = some (.int .i64 fl) ∧ w'.cell? ⟨cb, 3, none⟩ = some (.slice PA n pc) ∧ w'.cell? ⟨tb, 0, none⟩ = some (.int .i64 t) ∧ w'.cell? ⟨sb, 0, none⟩ = some (.slice (some ⟨b2, p2, none⟩) n sc) ∧ w'.cell? ⟨xb, 0, none⟩ = some (.int .i64 z0) ∧ w'.cell? ⟨xb, 1, none⟩ = some (.int .i64 z1) ∧ w'.cell? ⟨b2, p2 + t, none⟩ = some (.int .i64 x)) (i := 18) (by kernel_rfl) rfl (fun _ h => ⟨fun _ => trivial, fun _ => h⟩) (fun K hK => ?_)
  go_simp
  refine hK.out _ _ (HPR.out _ HD1) (fun _ => ?_)
  clear hK K
  refine wpAnyT_one (T := fun w' => w'.cell? ⟨cb, 0, none⟩ = some (.int .i64 cp) ∧ w'.cell? ⟨cb, 1, none⟩ = some (.int .i64 st) ∧ w'.cell? ⟨cb, 2, none⟩ = some (.int .i64 fl) ∧ w'.cell? ⟨cb, 3, none⟩ = some (.slice PA n pc) ∧ w'.cell? ⟨tb, 0, none⟩ = some (.int .i64 t) ∧ w'.cell? ⟨sb, 0, none⟩ = some (.slice (some ⟨b2, p2, none⟩) n sc) ∧ w'.cell? ⟨xb, 0, none⟩ = some (.int .i64 z0) ∧ w'.cell? ⟨xb, 1, none⟩ = some (.int .i64 z1) ∧ w'.cell? ⟨b2, p2 + t, none⟩ = some (.int .i64 x)) (i := 19) (by kernel_rfl) rfl (fun _ h => ⟨fun _ => trivial, fun _ => h⟩) (fun K hK => ?_)
  go_simp
  refine hK.out _ _ (HPR.out _ HD1) (fun _ => ?_)
  clear hK K
  refine wpAnyT_done (by kernel_rfl) ?_
  clear hHeld
  go_upto_region 2 with fail
  refine wp_region_tail (fun _ => True) (fun w' => w'.cell? ⟨cb, 0, none⟩ = some (.int .i64 cp) ∧ w'.cell? ⟨cb, 1, none⟩ = some (.int .i64 st) ∧ w'.cell? ⟨cb, 2, none⟩ = some (.int .i64 fl) ∧ w'.cell? ⟨cb, 3, none⟩ = some (.slice PA n pc) ∧ w'.cell? ⟨tb, 0, none⟩ = some (.int .i64 t) ∧ w'.cell? ⟨sb, 0, none⟩ = some (.slice (some ⟨b2, p2, none⟩) n sc) ∧ w'.cell? ⟨xb, 0, none⟩ = some (.int .i64 z0) ∧ w'.cell? ⟨xb, 1, none⟩ = some (.int .i64 z1) ∧ w'.cell? ⟨b2, p2 + t, none⟩ = some (.int .i64 x)) 19 19 (by kernel_rfl) ⟨trivial, HPR.out _ HD1.drew⟩ (fun hHeld => ?_)
  refine wpAnyT_takeB (i := 0) (v := .agg #[.int .i64 cp, .int .i64 st, .int .i64 fl, .slice PA n pc]) rfl (by kernel_rfl) (by kernel_rfl) (by kernel_rfl) (by kernel_rfl) (by kernel_rfl) (by decide) (by decide) (fun _ _ _ h => h) (Or.inl ⟨by kernel_rfl, ?_⟩) hHeld ?_
  · intro w' hSw
    obtain ⟨o0, q1, q2, o3, o4, o5, o6, o7, o8⟩ := hSw
    go_simp
  refine wpAnyT_takeB (i := 1) (v := .int .i64 t) rfl (by kernel_rfl) (by kernel_rfl) (by kernel_rfl) (by kernel_rfl) (by kernel_rfl) (by decide) (by decide) (fun _ _ _ h => h) (Or.inl ⟨by kernel_rfl, ?_⟩) hHeld ?_
  · intro w' hSw
    obtain ⟨o0, q1, q2, o3, o4, o5, o6, o7, o8⟩ := hSw
    go_simp
  simp only [Act.put]
  refine wpAnyT_takeB (i := 2) (v := .slice (some ⟨b2, p2, none⟩) n sc) rfl (by kernel_rfl) (by kernel_rfl) (by kernel_rfl) (by kernel_rfl) (by kernel_rfl) (by decide) (by decide) (fun _ _ _ h => h) (Or.inl ⟨by kernel_rfl, ?_⟩) hHeld ?_
  · intro w' hSw
    obtain ⟨o0, q1, q2, o3, o4, o5, o6, o7, o8⟩ := hSw
    go_simp
  refine wpAnyT_takeB (i := 3) (v := .int .i64 t) rfl (by kernel_rfl) (by kernel_rfl) (by kernel_rfl) (by kernel_rfl) (by kernel_rfl) (by decide) (by decide) (fun _ _ _ h => h) (Or.inl ⟨by kernel_rfl, ?_⟩) hHeld ?_
  · intro w' hSw
    obtain ⟨o0, q1, q2, o3, o4, o5, o6, o7, o8⟩ := hSw
    go_simp
  simp only [Act.put]
  refine wpAnyT_takeB (i := 4) (v := .pointer (some ⟨b2, p2 + t, none⟩)) rfl (by kernel_rfl) (by kernel_rfl) (by kernel_rfl) (by kernel_rfl) (by kernel_rfl) (by decide) (by decide) (fun _ _ _ h => h) (Or.inl ⟨by kernel_rfl, ?_⟩) hHeld ?_
  · intro w' hSw
    obtain ⟨o0, q1, q2, o3, o4, o5, o6, o7, o8⟩ := hSw
    go_simp
  refine wpAnyT_takeB (i := 5) (v := .int .i64 x) rfl (by kernel_rfl) (by kernel_rfl) (by kernel_rfl) (by kernel_rfl) (by kernel_rfl) (by decide) (by decide) (fun _ _ _ h => h) (Or.inl ⟨by kernel_rfl, ?_⟩) hHeld ?_
  · intro w' hSw
    obtain ⟨o0, q1, q2, o3, o4, o5, o6, o7, o8⟩ := hSw
    go_simp
  simp only [Act.put]
  refine wpAnyT_takeB (i := 6) (v := .int .i64 r) rfl (by kernel_rfl) (by kernel_rfl) (by kernel_rfl) (by kernel_rfl) (by kernel_rfl) (by decide) (by decide) (fun _ _ _ h => h) (Or.inl ⟨by kernel_rfl, ?_⟩) hHeld ?_
  · intro w' hSw
    obtain ⟨o0, q1, q2, o3, o4, o5, o6, o7, o8⟩ := hSw
    go_simp
  refine wpAnyT_takeB (i := 7) (v := .pointer (some ⟨xb, 0, none⟩)) rfl (by kernel_rfl) (by kernel_rfl) (by kernel_rfl) (by kernel_rfl) (by kernel_rfl) (by decide) (by decide) (fun _ _ _ h => h) (Or.inl ⟨by kernel_rfl, ?_⟩) hHeld ?_
  · intro w' hSw
    obtain ⟨o0, q1, q2, o3, o4, o5, o6, o7, o8⟩ := hSw
    go_simp
  simp only [Act.put]
  refine wpAnyT_takeB (i := 8) (v := .pointer (some ⟨xb, 1, none⟩)) rfl (by kernel_rfl) (by kernel_rfl) (by kernel_rfl) (by kernel_rfl) (by kernel_rfl) (by decide) (by decide) (fun _ _ _ h => h) (Or.inl ⟨by kernel_rfl, ?_⟩) hHeld ?_
  · intro w' hSw
    obtain ⟨o0, q1, q2, o3, o4, o5, o6, o7, o8⟩ := hSw
    go_simp
  refine wpAnyT_takeB (i := 9) (v := .int .i64 z1) rfl (by kernel_rfl) (by kernel_rfl) (by kernel_rfl) (by kernel_rfl) (by kernel_rfl) (by decide) (by decide) (fun _ _ _ h => h) (Or.inl ⟨by kernel_rfl, ?_⟩) hHeld ?_
  · intro w' hSw
    obtain ⟨o0, q1, q2, o3, o4, o5, o6, o7, o8⟩ := hSw
    go_simp
  simp only [Act.put]
  refine wpAnyT_one (T := fun w' => w'.cell? ⟨cb, 0, none⟩ = some (.int .i64 cp) ∧ w'.cell? ⟨cb, 1, none⟩ = some (.int .i64 st) ∧ w'.cell? ⟨cb, 2, none⟩ = some (.int .i64 fl) ∧ w'.cell? ⟨cb, 3, none⟩ = some (.slice PA n pc) ∧ w'.cell? ⟨tb, 0, none⟩ = some (.int .i64 t) ∧ w'.cell? ⟨sb, 0, none⟩ = some (.slice (some ⟨b2, p2, none⟩) n sc) ∧ w'.cell? ⟨xb, 0, none⟩ = some (.int .i64 z0) ∧ w'.cell? ⟨xb, 1, none⟩ = some (.int .i64 z1) ∧ w'.cell? ⟨b2, p2 + t, none⟩ = some (.int .i64 x)) (i := 10) (by kernel_rfl) rfl (fun _ h => ⟨fun _ => trivial, fun _ => h⟩) (fun K hK => ?_)
  go_simp
  go_at_call 19
  refine (H2.out _ HD1.drew).mono ?_
  rintro e d2 ⟨rfl, hb⟩
  have HD2 : Below w.heap.size w d2 := (HD1.drew).trans (hb.mono (HD1.drew).size)
  clear hb
  refine hK.out _ _ (HPR.out _ HD2) (fun hH => ?_)
  have hHeld := And.intro trivial hH
  clear hK K
  refine wpAnyT_takeB (i := 11) (v := .tuple #[.int .i64 y2, .int .i64 s2, .bool o2, .int .i64 0]) rfl (by kernel_rfl) (by kernel_rfl) (by kernel_rfl) (by kernel_rfl) (by kernel_rfl) (by decide) (by decide) (fun _ _ _ h => h) (Or.inl ⟨by kernel_rfl, ?_⟩) hHeld ?_
  · intro w' hSw
    obtain ⟨o0, q1, q2, o3, o4, o5, o6, o7, o8⟩ := hSw
    go_simp
  simp only [Act.put]
  refine wpAnyT_takeB (i := 12) (v := .int .i64 y2) rfl (by kernel_rfl) (by kernel_rfl) (by kernel_rfl) (by kernel_rfl) (by kernel_rfl) (by decide) (by decide) (fun _ _ _ h => h) (Or.inl ⟨by kernel_rfl, ?_⟩) hHeld ?_
  · intro w' hSw
    obtain ⟨o0, q1, q2, o3, o4, o5, o6, o7, o8⟩ := hSw
    go_simp
  refine wpAnyT_takeB (i := 13) (v := .int .i64 s2) rfl (by kernel_rfl) (by kernel_rfl) (by kernel_rfl) (by kernel_rfl) (by kernel_rfl) (by decide) (by decide) (fun _ _ _ h => h) (Or.inl ⟨by kernel_rfl, ?_⟩) hHeld ?_
  · intro w' hSw
    obtain ⟨o0, q1, q2, o3, o4, o5, o6, o7, o8⟩ := hSw
    go_simp
  simp only [Act.put]
  refine wpAnyT_takeB (i := 14) (v := .bool o2) rfl (by kernel_rfl) (by kernel_rfl) (by kernel_rfl) (by kernel_rfl) (by kernel_rfl) (by decide) (by decide) (fun _ _ _ h => h) (Or.inl ⟨by kernel_rfl, ?_⟩) hHeld ?_
  · intro w' hSw
    obtain ⟨o0, q1, q2, o3, o4, o5, o6, o7, o8⟩ := hSw
    go_simp
  refine wpAnyT_takeB (i := 15) (v := .int .i64 0) rfl (by kernel_rfl) (by kernel_rfl) (by kernel_rfl) (by kernel_rfl) (by kernel_rfl) (by decide) (by decide) (fun _ _ _ h => h) (Or.inl ⟨by kernel_rfl, ?_⟩) hHeld ?_
  · intro w' hSw
    obtain ⟨o0, q1, q2, o3, o4, o5, o6, o7, o8⟩ := hSw
    go_simp
  simp only [Act.put]
  refine wpAnyT_one (T := fun w' => w'.cell? ⟨cb, 0, none⟩ = some (.int .i64 cp) ∧ w'.cell? ⟨cb, 1, none⟩ = some (.int .i64 st) ∧ w'.cell? ⟨cb, 2, none⟩ = some (.int .i64 fl) ∧ w'.cell? ⟨cb, 3, none⟩ = some (.slice PA n pc) ∧ w'.cell? ⟨tb, 0, none⟩ = some (.int .i64 t) ∧ w'.cell? ⟨sb, 0, none⟩ = some (.slice (some ⟨b2, p2, none⟩) n sc) ∧ w'.cell? ⟨xb, 0, none⟩ = some (.int .i64 z0) ∧ w'.cell? ⟨xb, 1, none⟩ = some (.int .i64 z1) ∧ w'.cell? ⟨b2, p2 + t, none⟩ = some (.int .i64 x)) (i := 16) (by kernel_rfl) rfl (fun _ h => ⟨fun _ => trivial, fun _ => h⟩) (fun K hK => ?_)
  go_simp
  refine hK.out _ _ (HPR.out _ HD2) (fun _ => ?_)
  clear hK K
  refine wpAnyT_one (T := fun w' => w'.cell? ⟨cb, 0, none⟩ = some (.int .i64 cp) ∧ w'.cell? ⟨cb, 1, none⟩ = some (.int .i64 st) ∧ w'.cell? ⟨cb, 2, none⟩ = some (.int .i64 fl) ∧ w'.cell? ⟨cb, 3, none⟩ = some (.slice PA n pc) ∧ w'.cell? ⟨tb, 0, none⟩ = some (.int .i64 t) ∧ w'.cell? ⟨sb, 0, none⟩ = some (.slice (some ⟨b2, p2, none⟩) n sc) ∧ w'.cell? ⟨xb, 0, none⟩ = some (.int .i64 z0) ∧ w'.cell? ⟨xb, 1, none⟩ = some (.int .i64 z1) ∧ w'.cell? ⟨b2, p2 + t, none⟩ = some (.int .i64 x)) (i := 17) (by kernel_rfl) rfl (fun _ h => ⟨fun _ => trivial, fun _ => h⟩) (fun K hK => ?_)
  go_simp
  refine hK.out _ _ (HPR.out _ HD2) (fun _ => ?_)
  clear hK K
  refine wpAnyT_one (T := fun w' => w'.cell? ⟨cb, 0, none⟩ = some (.int .i64 cp) ∧ w'.cell? ⟨cb, 1, none⟩ = some (.int .i64 st) ∧ w'.cell? ⟨cb, 2, none⟩ = some (.int .i64 fl) ∧ w'.cell? ⟨cb, 3, none⟩ = some (.slice PA n pc) ∧ w'.cell? ⟨tb, 0, none⟩ = some (.int .i64 t) ∧ w'.cell? ⟨sb, 0, none⟩ = some (.slice (some ⟨b2, p2, none⟩) n sc) ∧ w'.cell? ⟨xb, 0, none⟩ = some (.int .i64 z0) ∧ w'.cell? ⟨xb, 1, none⟩ = some (.int .i64 z1) ∧ w'.cell? ⟨b2, p2 + t, none⟩ = some (.int .i64 x)) (i := 18) (by kernel_rfl) rfl (fun _ h => ⟨fun _ => trivial, fun _ => h⟩) (fun K hK => ?_)
  go_simp
  refine hK.out _ _ (HPR.out _ HD2) (fun _ => ?_)
  clear hK K
  refine wpAnyT_one (T := fun w' => w'.cell? ⟨cb, 0, none⟩ = some (.int .i64 cp) ∧ w'.cell? ⟨cb, 1, none⟩ = some (.int .i64 st) ∧ w'.cell? ⟨cb, 2, none⟩ = some (.int .i64 fl) ∧ w'.cell? ⟨cb, 3, none⟩ = some (.slice PA n pc) ∧ w'.cell? ⟨tb, 0, none⟩ = some (.int .i64 t) ∧ w'.cell? ⟨sb, 0, none⟩ = some (.slice (some ⟨b2, p2, none⟩) n sc) ∧ w'.cell? ⟨xb, 0, none⟩ = some (.int .i64 z0) ∧ w'.cell? ⟨xb, 1, none⟩ = some (.int .i64 z1) ∧ w'.cell? ⟨b2, p2 + t, none⟩ = some (.int .i64 x)) (i := 19) (by kernel_rfl) rfl (fun _ h => ⟨fun _ => trivial, fun _ => h⟩) (fun K hK => ?_)
  go_simp
  refine hK.out _ _ (HPR.out _ HD2) (fun _ => ?_)
  clear hK K
  refine wpAnyT_done (by kernel_rfl) ?_
  clear hHeld
  go_upto_region 3 with fail
  obtain ⟨c0, c1, c2, c3⟩ := HPL.out _ HD2
  cases o1
  · cases o2 <;>
    · go_wp2_with fail
      go_ret
      exact ⟨rfl, HD2⟩
  cases o2
  · go_wp2_with fail
    go_ret
    exact ⟨rfl, HD2⟩
  go_wp2_with fail
  refine (Has_25 _ _ _ _).mono ?_
  rintro e w3 ⟨rfl, hb⟩
  have HD3 : Below w.heap.size w w3 := HD2.trans (hb.mono HD2.size)
  clear hb c0 c1 c2 c3
  generalize hv1 : ri3 S1 y1 S2 = v1
  have HV1 := Lib.hid hv1
  clear hv1
  obtain ⟨c0, c1, c2, c3⟩ := HPL.out _ HD3
  cases v1
  · go_wp2_with fail
    go_ret
    exact ⟨ret_bool (by rw [HV1.out]; simp), HD3⟩
  go_wp2_with fail
  refine (Has_25 _ _ _ _).mono ?_
  rintro e w4 ⟨rfl, hb⟩
  have HD4 : Below w.heap.size w w4 := HD3.trans (hb.mono HD3.size)
  clear hb c0 c1 c2 c3
  go_wp2_with fail
  go_ret
  exact ⟨ret_bool (by rw [HV1.out]; simp), HD4⟩
/-- the closure answers true at the release, and false at one less -/
theorem good_k {PA : Option Addr} {n pc : Nat} {cp st fl : Int} {lo hi dm ou sp : Nat → Int} (B cb tb sb xb lb k sc lc : Nat) (LA SA : Option Addr) (a : Nat → Int) (v : Bool) (r : Int) (w : World) (hck : (chkE cp st fl n lo hi dm ou sp) = 0) (hK : ri3 (rb cp fl n lo hi dm ou sp 0).1 st (rb cp fl n lo hi dm ou sp 0).2 = true) (hk : k < n)
    (hv : (v = true ∧ r = rS cp st fl n lo hi dm ou sp a k) ∨ (v = false ∧ r = rS cp st fl n lo hi dm ou sp a k - 1 ∧ dm k < rS cp st fl n lo hi dm ou sp a k))
    (hB : B ≤ w.heap.size) (hr : Rd w B PA (n * 5) (psc lo hi dm ou sp)) (hl : Rd w B LA ((n + 1) * 2) (rsc (rb cp fl n lo hi dm ou sp))) (hs : Rd w B SA n (fun j => .int .i64 (xS cp st fl n lo hi dm ou sp a j)))
    (hc : Blk w cb 26 #[.int .i64 cp, .int .i64 st, .int .i64 fl, .slice PA n pc]) (htb : Blk w tb 3 #[.int .i64 k]) (hsb : Blk w sb 41 #[.slice SA n sc]) (hx : Blk w xb 50 #[.int .i64 (lo k), .int .i64 (hi k), .int .i64 (dm k), .int .i64 (ou k), .int .i64 (sp k)]) (hlb : Blk w lb 28 #[.slice LA (n + 1) lc]) :
    Calls Try.prog 29 #[.int .i64 r, .pointer (some ⟨cb, 0, none⟩), .pointer (some ⟨tb, 0, none⟩), .pointer (some ⟨sb, 0, none⟩), .pointer (some ⟨xb, 0, none⟩), .pointer (some ⟨lb, 0, none⟩)] w fun e w' => e = .returned (.bool v) ∧ Below w.heap.size w w' := by
  have hg := good_of hck
  have hst : 0 ≤ st ∧ st ≤ cp := ⟨(chk_zero hck).2.1.1, (chk_zero hck).2.1.2.1⟩
  obtain ⟨hx1, hx2⟩ := xS_ok hg hst hK a k (by omega)
  obtain ⟨⟨g1, g2, g3⟩, ⟨g4, g5, g6⟩, g7, g8⟩ := hg.2.2.2 k hk
  have hcp := hg.2.1
  have h64 := hg.1
  have hn : n ≤ 9223372036854775807 := by omega
  obtain ⟨l1, l2, l3, _⟩ := keep_ok (q := lo k) (r := rS cp st fl n lo hi dm ou sp a k) hg hk hx1 ⟨Int.le_refl _, g2⟩ rfl
  obtain ⟨_, m2, m3, _⟩ := keep_ok (q := hi k) (r := rS cp st fl n lo hi dm ou sp a k) hg hk hx1 ⟨g2, Int.le_refl _⟩ rfl
  have hra : dm k ≤ r ∧ r ≤ ou k ∧ r ≤ xS cp st fl n lo hi dm ou sp a k := by
    rcases hv with ⟨_, h⟩ | ⟨_, h, h'⟩ <;> omega
  have HN : ∀ q, lo k ≤ q ∧ q ≤ hi k → ∀ W, Below w.heap.size w W → Calls Try.prog 19 #[(.agg #[.int .i64 cp, .int .i64 st, .int .i64 fl, .slice PA n pc]), .int .i64 k, .int .i64 (xS cp st fl n lo hi dm ou sp a k), .int .i64 r, .int .i64 q] W fun e w' => e = .returned (.tuple #[.int .i64 (if nxO cp sp k (xS cp st fl n lo hi dm ou sp a k) r q = true then nxN cp (xS cp st fl n lo hi dm ou sp a k) r q else 0), .int .i64 (if nxO cp sp k (xS cp st fl n lo hi dm ou sp a k) r q = true then nxS cp (xS cp st fl n lo hi dm ou sp a k) r q else 0), .bool (nxO cp sp k (xS cp st fl n lo hi dm ou sp a k) r q), .int .i64 0]) ∧ Below W.heap.size W w' := fun q hq W hW => by
    have := Next_19 (pc := pc) (PA := PA) (cp := cp) (st := st) (fl := fl) (lo := lo) (hi := hi) (dm := dm) (ou := ou) (sp := sp) B (k : Int) (xS cp st fl n lo hi dm ou sp a k) r q W hn (by have := hW.size; omega) (hr.below (hW.mono hB))
    rw [nx_ok hck hk hx2 ⟨by omega, by omega⟩ ⟨by omega, by omega⟩ hra] at this
    exact this
  obtain ⟨b1, p1, rfl, hb1, hc1, hc2⟩ := rng_at hl (show k + 1 < n + 1 by omega)
  obtain ⟨b2, p2, rfl, hb2, hcx⟩ := hs (by omega)
  refine (good_29 cb tb sb xb lb k sc lc b1 p1 b2 p2 _ r _ _ _ _ _ _ _ _ _ _ _ _ _ w hk h64 hc htb hsb hx hlb (by omega) (hcx k hk) (by omega) hc1 hc2 (HN (lo k) ⟨Int.le_refl _, g2⟩) (HN (hi k) ⟨g2, Int.le_refl _⟩)).mono ?_
  rintro e w' ⟨rfl, hb⟩
  refine ⟨ret_bool ?_, hb⟩
  rcases hv with ⟨rfl, rfl⟩ | ⟨rfl, rfl, hd⟩
  · have o1 : nxO cp sp k (xS cp st fl n lo hi dm ou sp a k) (rS cp st fl n lo hi dm ou sp a k) (lo k) = true := by unfold nxO; exact decide_eq_true l2
    have o2 : nxO cp sp k (xS cp st fl n lo hi dm ou sp a k) (rS cp st fl n lo hi dm ou sp a k) (hi k) = true := by unfold nxO; exact decide_eq_true m2
    rw [o1, o2, if_pos rfl, if_pos rfl, l3, m3]
    rfl
  · cases o2 : nxO cp sp k (xS cp st fl n lo hi dm ou sp a k) (rS cp st fl n lo hi dm ou sp a k - 1) (hi k)
    · simp
    · have hll := least_ok (r := rS cp st fl n lo hi dm ou sp a k) hg hk hx1 rfl hd o2
      rw [if_pos rfl, hll]
      simp
end Go.Proofs.Ytnmocdfogdcliaa
