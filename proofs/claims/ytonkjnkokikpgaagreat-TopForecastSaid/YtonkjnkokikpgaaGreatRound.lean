/- A region that draws its order, in a round of a range over a function: its orders are walked as everywhere. -/
import Derived.Test.YtonkjnkokikpgaaGreatModel
import Derived.RangeFuncNested
import Derived.RangeFuncBound
import Derived.RangeFuncCalls
import Derived.RangeFuncLeaves
import Derived.Shelf.Abstract
import Derived.Shelf.RegionOpen
import Derived.OwnWalkIn
import Derived.TacticsInMore
import Derived.LoopNIn
import Derived.LoopIn
import Derived.Deep.RegionHeld3
namespace Go.Proofs.YtonkjnkokikpgaaGreat
open Go.RowKit

/-- the fence that lets all by, in a round of loop l -/
theorem rowsIn_of {P : Program} {row : String} {args : Array Value} {w : World} {R : Value → World → Prop} {n l : Nat} (h : Rows P row args w R) : RowsIn (Fence.wide.inRound l) n P row args w R :=
  fun c cs _ => by
    obtain ⟨v, w', hr, hs⟩ := h c cs
    exact ⟨v, w', hr, by rw [fenced_inRound]; exact stepsIn_wide.2 hs⟩

theorem wpOp_in {P : Program} {ops : Array Oper} {Q : Exit → Act → World → Prop} {i l n : Nat} {K : Act → World → Prop} {a : Act} {w : World}
    (hd : ∀ o c, ops[i]? = some o → o.op ≠ .defer c) (hQ : ¬ LetsOut Q) (h : wpOp P ops Q i K a w) : wpOpIn (Fence.wide.inRound l) n P ops Q i K a w := by
  unfold wpOp at h
  unfold wpOpIn
  cases ho : ops[i]? with
  | none => simpa [ho] using h
  | some o =>
    simp only [ho] at h ⊢
    split
    · rename_i hw
      rw [if_pos hw] at h
      rcases h with h | h
      · refine ⟨fun _ _ => trivial, ?_⟩
        unfold Oper.wp at h
        rw [Oper.semAt_eq _ _ _ (fun c => hd o c ho)]
        generalize (execOp a.eval o).run P w = r at *
        cases r with
        | ok x w' =>
          cases x <;> simp only [Oper.upon] at h <;> simp only [Oper.uponIn]
          case value => exact h
          case skip => exact h
          case defer => exact h
          case enter => exact ⟨by simp [Fence.wide], CallsIn.inRound l (callsIn_wide.2 h)⟩
          case row => exact ⟨by simp [Fence.wide], rowsIn_of h⟩
        | halt x w' =>
          cases x <;> simp only [Oper.upon] at h <;> simp only [Oper.uponIn]
          case panic => exact h
      · exact absurd h.2 hQ
    · rename_i hw
      rw [if_neg hw] at h
      exact ⟨fun _ _ => trivial, h⟩

theorem wpAny_in {P : Program} {md : Region.Mode} {ops : Array Oper} {Q : Exit → Act → World → Prop} {l n : Nat}
    (hd : ∀ (i : Nat) o c, ops[i]? = some o → o.op ≠ .defer c) (hQ : ¬ LetsOut Q) : ∀ (fuel : Nat) (listed : Array Bool) (a : Act) (w : World),
      wpAny P md ops Q fuel listed a w → wpAnyIn (Fence.wide.inRound l) n P md ops Q fuel listed a w
  | 0, _, _, _, h => h
  | fuel + 1, _, _, _, h => ⟨h.1, fun i hi => wpOpIn_mono (fun a' w' h' => wpAny_in hd hQ fuel _ a' w' h') (wpOp_in (hd i) hQ (h.2 i hi))⟩

/-- a region that draws its order, in a round: its orders walked as everywhere -/
theorem wpIn_region_round {P : Program} {ops : Array Oper} {Q : Exit → Act → World → Prop} {l n id : Nat} {a : Act} {w : World} {S : World → Prop} (hm : P.follows .mixedOrders = true)
    (hd : ops.all (fun o => match o.op with | .defer _ => false | _ => true) = true) (hQ : ¬ LetsOut Q) (hS : S w.drew)
    (h : S w.drew → wpAnyH P .any ops Q S ops.size (Array.replicate ops.size false) a w.drew) : (Code.region id ops true).wpIn (Fence.wide.inRound l) n P Q a w := by
  refine wpIn_region_any hm (wpAny_in ?_ hQ _ _ _ _ (wpAny_of_held _ _ _ _ (h hS)))
  intro i o c hi ho
  rw [Array.all_eq_true] at hd
  obtain ⟨hlt, rfl⟩ := Array.getElem?_eq_some_iff.1 hi
  have := hd i hlt
  rw [ho] at this
  cases this


/-! ### loads taken first in a region whose last operations store into the loaded cells -/
section
variable {P : Program} {ops : Array Oper} {Q : Exit → Act → World → Prop} {md : Region.Mode} {A B : World → Prop} {sA sB : Nat}

/-- A holds till number sA has come, B till number sB has come -/
def Ob (A B : World → Prop) (sA sB : Nat) (L : Array Bool) (w : World) : Prop := (L.getD sA true = false → A w) ∧ (L.getD sB true = false → B w)

theorem Ob.of_set {i : Nat} {L : Array Bool} {w : World} (hA : i ≠ sA) (hB : i ≠ sB) (h : Ob A B sA sB (L.setIfInBounds i true) w) : Ob A B sA sB L w :=
  ⟨fun h0 => h.1 (by rw [getD_set_ne true hA]; exact h0), fun h0 => h.2 (by rw [getD_set_ne true hB]; exact h0)⟩
theorem Ob.set {i : Nat} {L : Array Bool} {w : World} (hA : i ≠ sA) (hB : i ≠ sB) (h : Ob A B sA sB L w) : Ob A B sA sB (L.setIfInBounds i true) w :=
  ⟨fun h0 => h.1 (by rw [getD_set_ne true hA] at h0; exact h0), fun h0 => h.2 (by rw [getD_set_ne true hB] at h0; exact h0)⟩

/-- whatever order is picked from here on, and A, B hold as long as they must -/
def wpAnyT (P : Program) (md : Region.Mode) (ops : Array Oper) (Q : Exit → Act → World → Prop) (A B : World → Prop) (sA sB : Nat) : Nat → Array Bool → Act → World → Prop
  | 0, listed, a, w => Region.ready md ops listed = [] ∧ Q .normal a w
  | fuel + 1, listed, a, w =>
    (Region.ready md ops listed = [] → Q .normal a w) ∧
    ∀ i ∈ Region.ready md ops listed, wpOp P ops Q i (fun a' w' => Ob A B sA sB (listed.setIfInBounds i true) w' ∧ wpAnyT P md ops Q A B sA sB fuel (listed.setIfInBounds i true) a' w') a w

theorem wpAny_of_tail : ∀ (fuel : Nat) (listed : Array Bool) (a : Act) (w : World), wpAnyT P md ops Q A B sA sB fuel listed a w → wpAny P md ops Q fuel listed a w
  | 0, _, _, _, h => h
  | fuel + 1, _, _, _, h => ⟨h.1, fun i hi => wpOp_mono (fun a' w' h' => wpAny_of_tail fuel _ a' w' h'.2) (h.2 i hi)⟩

theorem wpAnyT_first {T : World → Prop} {s : Nat} {i : Nat} {oi : Oper} {v : Value} (hi : ops[i]? = some oi) (hsel : ∀ (j : Nat) (o : Oper) cs b, ops[j]? = some o → o.op ≠ .select cs b)
    (hQ : ∀ c a w, Q (.panic c) (a.put oi.dst v) w → Q (.panic c) a w) (hA : i ≠ sA) (hB : i ≠ sB)
    (hT : ∀ L w, L.getD s true = false → Ob A B sA sB L w → T w) (hw : ∀ o, ops[s]? = some o → ∃ e ∈ o.after, Region.binds md e = true ∧ e.on = i) :
    ∀ (fuel : Nat) (listed : Array Bool) (a : Act) (w : World),
      (∀ j oj, ops[j]? = some oj → j ≠ i → listed.getD j true = false → (∀ e ∈ oj.after, Region.binds md e = true → e.on ≠ i) → oi.apart ops oj = true) →
      i ∈ Region.ready md ops listed → YieldsIf P ops T oi v a → Ob A B sA sB listed w → listed.getD s true = false →
      wpAnyT P md ops Q A B sA sB fuel (listed.setIfInBounds i true) (a.put oi.dst v) w → wpAnyT P md ops Q A B sA sB (fuel + 1) listed a w := by
  intro fuel
  induction fuel with
  | zero =>
    intro listed a w _ hr hy hO hl H
    refine ⟨fun h => (by rw [h] at hr; cases hr), fun j hj => ?_⟩
    by_cases hji : j = i
    · subst hji; exact hy.wpOp hi (hT _ _ hl hO) ⟨hO.set hA hB, H⟩
    · have := ready_mono hj hji
      rw [H.1] at this
      cases this
  | succ fuel ih =>
    intro listed a w hfree hr hy hO hl H
    refine ⟨fun h => (by rw [h] at hr; cases hr), fun j hj => ?_⟩
    by_cases hji : j = i
    · subst hji; exact hy.wpOp hi (hT _ _ hl hO) ⟨hO.set hA hB, H⟩
    · have h1 := H.2 j (ready_mono hj hji)
      obtain ⟨hjun, oj, hoj, hall⟩ := mem_ready.1 hj
      have hnot : ∀ e ∈ oj.after, Region.binds md e = true → e.on ≠ i := fun e he hb heq => by
        have h1 := hall e he hb
        have h0 := (mem_ready.1 hr).1
        rw [heq] at h1
        rcases Nat.lt_or_ge i listed.size with h' | h'
        · simp [h'] at h0 h1; rw [h0] at h1; cases h1
        · simp [Array.getElem?_eq_none h'] at h1
      have hjs : j ≠ s := by
        rintro rfl
        obtain ⟨e, he, hb, heq⟩ := hw oj hoj
        exact hnot e he hb heq
      have h2 := wpOp_putIf hoj (hfree j oj hoj hji hjun hnot) (fun cs b => hsel i oi cs b hi) (fun cs b => hsel j oj cs b hoj) hQ hy h1
      have hfree' : ∀ k ok, ops[k]? = some ok → k ≠ i → (listed.setIfInBounds j true).getD k true = false →
          (∀ e ∈ ok.after, Region.binds md e = true → e.on ≠ i) → oi.apart ops ok = true := fun k ok hk hki hun hno => by
        refine hfree k ok hk hki ?_ hno
        by_cases hjk : j = k
        · subst hjk; exact hjun
        · rw [getD_set_ne true hjk] at hun; exact hun
      refine wpOp_mono (fun a' w' h3 => ?_) h2
      have hO' : Ob A B sA sB (listed.setIfInBounds j true) w' := Ob.of_set hA hB (by
        have := h3.2.1
        rw [Array.setIfInBounds_comm _ _ (Ne.symm hji)] at this
        exact this)
      refine ⟨hO', ih (listed.setIfInBounds j true) a' w' hfree' (ready_mono hr (Ne.symm hji)) h3.1 hO' (by rw [getD_set_ne true hjs]; exact hl) ?_⟩
      rw [Array.setIfInBounds_comm _ _ hji]
      exact h3.2.2

/-- does number s wait for number i? -/
def waitsB (md : Region.Mode) (ops : Array Oper) (s i : Nat) : Bool := match ops[s]? with
  | some o => o.after.any fun e => Region.binds md e && e.on == i
  | none => true
theorem waitsB_spec {s i : Nat} (h : waitsB md ops s i = true) : ∀ o, ops[s]? = some o → ∃ e ∈ o.after, Region.binds md e = true ∧ e.on = i := by
  intro o ho
  simp [waitsB, ho] at h
  obtain ⟨k, hk, hb, he⟩ := h
  exact ⟨_, Array.getElem_mem hk, hb, he⟩

/-- take number i first: what it reads stands in A -/
theorem wpAnyT_takeA {i : Nat} {oi : Oper} {v : Value} {fuel : Nat} {listed : Array Bool} {a : Act} {w : World} (hi : ops[i]? = some oi)
    (hs : Region.noSelect ops = true) (hf : Region.free md ops listed i = true) (hr : (Region.ready md ops listed).contains i = true) (hw : waitsB md ops sA i = true) (hl : listed.getD sA true = false)
    (hA : i ≠ sA) (hB : i ≠ sB) (hQ : ∀ c a w, Q (.panic c) (a.put oi.dst v) w → Q (.panic c) a w) (hy : YieldsIf P ops A oi v a) (hS : A w ∧ B w)
    (h : wpAnyT P md ops Q A B sA sB fuel (listed.setIfInBounds i true) (a.put oi.dst v) w) : wpAnyT P md ops Q A B sA sB (fuel + 1) listed a w :=
  wpAnyT_first (T := A) (s := sA) hi (Region.noSelect_spec hs) hQ hA hB (fun _ _ h0 hO => hO.1 h0) (waitsB_spec hw) fuel listed a w (Region.free_spec hi hf) (by simpa using hr) hy ⟨fun _ => hS.1, fun _ => hS.2⟩ hl h

/-- take number i first: what it reads stands in B -/
theorem wpAnyT_takeB {i : Nat} {oi : Oper} {v : Value} {fuel : Nat} {listed : Array Bool} {a : Act} {w : World} (hi : ops[i]? = some oi)
    (hs : Region.noSelect ops = true) (hf : Region.free md ops listed i = true) (hr : (Region.ready md ops listed).contains i = true) (hw : waitsB md ops sB i = true) (hl : listed.getD sB true = false)
    (hA : i ≠ sA) (hB : i ≠ sB) (hQ : ∀ c a w, Q (.panic c) (a.put oi.dst v) w → Q (.panic c) a w) (hy : YieldsIf P ops B oi v a) (hS : A w ∧ B w)
    (h : wpAnyT P md ops Q A B sA sB fuel (listed.setIfInBounds i true) (a.put oi.dst v) w) : wpAnyT P md ops Q A B sA sB (fuel + 1) listed a w :=
  wpAnyT_first (T := B) (s := sB) hi (Region.noSelect_spec hs) hQ hA hB (fun _ _ h0 hO => hO.2 h0) (waitsB_spec hw) fuel listed a w (Region.free_spec hi hf) (by simpa using hr) hy ⟨fun _ => hS.1, fun _ => hS.2⟩ hl h

/-- one operation alone may come up; what must hold behind it is T -/
theorem wpAnyT_one {T : World → Prop} {i : Nat} {o : Oper} {fuel : Nat} {listed : Array Bool} {a : Act} {w : World} (hr : Region.ready md ops listed = [i]) (ho : ops[i]? = some o) (hT : ∀ w, T w → Ob A B sA sB (listed.setIfInBounds i true) w)
    (h : ∀ K' : Act → World → Prop, Shut (∀ a w, T w → (T w → wpAnyT P md ops Q A B sA sB fuel (listed.setIfInBounds i true) a w) → K' a w) → if Region.wanted o (yielded ops a.tmps) = true then Oper.wp P o a w K' Q else K' (a.put o.dst undef) w) :
    wpAnyT P md ops Q A B sA sB (fuel + 1) listed a w := by
  refine ⟨fun h0 => (by rw [hr] at h0; cases h0), fun j hj => ?_⟩
  rw [hr] at hj
  obtain rfl : j = i := by simpa using hj
  exact wpOp_step ho (fun K' hK => h K' (fun a w hS hW => hK a w ⟨hT w hS, hW hS⟩))
theorem Ob.head {L : Array Bool} : ∀ w, A w ∧ B w → Ob A B sA sB L w := fun _ h => ⟨fun _ => h.1, fun _ => h.2⟩
theorem Ob.mid {L : Array Bool} (hl : L.getD sA true = true) : ∀ w, B w → Ob A B sA sB L w := fun _ h => ⟨fun h0 => by (rw [hl] at h0; cases h0), fun _ => h⟩
theorem Ob.last {L : Array Bool} (hl : L.getD sA true = true) (hl' : L.getD sB true = true) : ∀ w, True → Ob A B sA sB L w := fun _ _ => ⟨fun h0 => by (rw [hl] at h0; cases h0), fun h0 => by (rw [hl'] at h0; cases h0)⟩

theorem wpAnyT_done {fuel : Nat} {listed : Array Bool} {a : Act} {w : World} (hr : Region.ready md ops listed = []) (h : Q .normal a w) : wpAnyT P md ops Q A B sA sB fuel listed a w := by
  cases fuel with
  | zero => exact ⟨hr, h⟩
  | succ fuel => exact ⟨fun _ => h, fun i hi => by rw [hr] at hi; cases hi⟩

/-- a region that draws its order, in a round -/
theorem wpIn_region_tail {l n id : Nat} {a : Act} {w : World} (A B : World → Prop) (sA sB : Nat) (hm : P.follows .mixedOrders = true)
    (hd : ops.all (fun o => match o.op with | .defer _ => false | _ => true) = true) (hQ : ¬ LetsOut Q) (hS : A w.drew ∧ B w.drew)
    (h : A w.drew ∧ B w.drew → wpAnyT P .any ops Q A B sA sB ops.size (Array.replicate ops.size false) a w.drew) : (Code.region id ops true).wpIn (Fence.wide.inRound l) n P Q a w := by
  refine wpIn_region_any hm (wpAny_in ?_ hQ _ _ _ _ (wpAny_of_tail _ _ _ _ (h hS)))
  intro i o c hi ho
  rw [Array.all_eq_true] at hd
  obtain ⟨hlt, rfl⟩ := Array.getElem?_eq_some_iff.1 hi
  have := hd i hlt
  rw [ho] at this
  cases this

/-- the same outside of rounds -/
theorem wp_region_tail {id : Nat} {a : Act} {w : World} (A B : World → Prop) (sA sB : Nat) (hm : P.follows .mixedOrders = true) (hS : A w.drew ∧ B w.drew)
    (h : A w.drew ∧ B w.drew → wpAnyT P .any ops Q A B sA sB ops.size (Array.replicate ops.size false) a w.drew) : (Code.region id ops true).wp P Q a w :=
  wp_region_any hm (wpAny_of_tail _ _ _ _ (h hS))
end

end Go.Proofs.YtonkjnkokikpgaaGreat
